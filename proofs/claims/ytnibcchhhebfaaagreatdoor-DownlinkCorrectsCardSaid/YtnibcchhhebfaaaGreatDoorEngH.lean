/-
  OWN WORK. THE ENGINE, part H: operations that change memory.
-/
import Derived.Test.YtnibcchhhebfaaaGreatDoorEngG
namespace Eng
open Go
set_option linter.unusedVariables false
set_option linter.unusedSimpArgs false

section
variable {P : Program} {E : Env} {N : Nat} {fr : Fr} {a : Act} {G : Gd} {H : Hp} {C : Ctx} {w w' : World} {o : Oper}

theorem cell_block {b x : Nat} (h : w'.heap[b]? = w.heap[b]?) : w'.cell? ⟨b, x, none⟩ = w.cell? ⟨b, x, none⟩ := by
  simp [World.cell?, h]
theorem EntOk.famO {e : Ent} (h : EntOk C w e) {f : Nat → Nat × Nat} (hf : e.fam = some f) {i : Nat} (hi : i < e.n) (hs : (e.get i).occ) :
    (e.own = false → (f i).1 < C.w0.heap.size ∧ ¬ C.M (f i).1) ∧ (e.own = true → (C.w0.heap.size ≤ (f i).1 ∨ C.M (f i).1) ∧ (f i).1 < w.heap.size) := by
  rcases hs with hs | hs
  · obtain ⟨h1, h2⟩ := h.fam f hf i hi hs
    exact ⟨h1, fun ho => ⟨(h2 ho).1, (h2 ho).2.lt⟩⟩
  · obtain ⟨a, b, he⟩ := isM_eq hs
    obtain ⟨h1, h2, h3⟩ := h.mob f hf i hi a b he
    exact ⟨h1, fun ho => ⟨h2 ho, h3.lt⟩⟩
theorem EntOk.own_in {e : Ent} (h : EntOk C w e) (ho : e.own = true) (hz : e.z = false) {k : Nat} (hk : e.blk k) : C.w0.heap.size ≤ k ∨ C.M k := by
  unfold Ent.blk at hk
  cases hf : e.fam with
  | none => rw [hf] at hk; rw [hk]; exact (h.ow ho hz hf).1
  | some f =>
    rw [hf] at hk
    obtain ⟨i, hi, hs, rfl⟩ := hk
    exact ((h.famO hf hi hs).2 ho).1
theorem EntOk.lt {e : Ent} (h : EntOk C w e) (hz : e.z = false) (hk : Kept C w) : ∀ k, e.blk k → k < w.heap.size := by
  intro k hb
  unfold Ent.blk at hb
  cases ho : e.own with
  | false =>
    cases hf : e.fam with
    | none => rw [hf] at hb; rw [hb]; exact Nat.lt_of_lt_of_le (h.ro ho hz hf).1 hk.size
    | some f =>
      rw [hf] at hb
      obtain ⟨i, hi, hs, rfl⟩ := hb
      exact Nat.lt_of_lt_of_le ((h.famO hf hi hs).1 ho).1 hk.size
  | true =>
    cases hf : e.fam with
    | none =>
      rw [hf] at hb
      rw [hb]
      obtain ⟨_, _, cs, fz, h3, _⟩ := h.ow ho hz hf
      exact (Array.getElem?_eq_some_iff.1 h3).1
    | some f =>
      rw [hf] at hb
      obtain ⟨i, hi, hs, rfl⟩ := hb
      exact ((h.famO hf hi hs).2 ho).2
theorem EntOk.keep {e : Ent} (h : EntOk C w e) (hk : w.heap.size ≤ w'.heap.size) (hb : e.z = true ∨ ∀ k, e.blk k → w'.heap[k]? = w.heap[k]?) : EntOk C w' e := by
  have hfam : ∀ f, e.fam = some f → ∀ i, i < e.n → (e.get i).sz ≠ 0 → (e.own = false → (f i).1 < C.w0.heap.size ∧ ¬ C.M (f i).1) ∧ (e.own = true → (C.w0.heap.size ≤ (f i).1 ∨ C.M (f i).1) ∧ WrB w' (f i).1) := fun f hf i hi hs => by
    obtain ⟨q1, q2⟩ := h.fam f hf i hi hs
    refine ⟨q1, fun ho => ⟨(q2 ho).1, ?_⟩⟩
    obtain ⟨cs, t, fz, c1, c2⟩ := (q2 ho).2
    rcases hb with hz | hb
    · have := (h.z hz).1; omega
    · exact ⟨cs, t, fz, by rw [hb _ (by unfold Ent.blk; rw [hf]; exact ⟨i, hi, .inl hs, rfl⟩)]; exact c1, c2⟩
  rcases hb with hz | hb
  · have h0 := (h.z hz).1
    exact ⟨h.one, fun _ hf => (by rw [hz] at hf; cases hf), h.z, fun _ hf => (by rw [hz] at hf; cases hf), hfam, fun _ _ i hi => by omega, fun i hi => by omega⟩
  · refine ⟨h.one, h.ro, h.z, fun ho hz hf => ?_, hfam, fun f hf i hi a b hab => ?_, fun i hi => ?_⟩
    rotate_left
    · obtain ⟨q1, q2, q3⟩ := h.mob f hf i hi a b hab
      exact ⟨q1, q2, q3.same (hb _ (by unfold Ent.blk; rw [hf]; exact ⟨i, hi, .inr (by rw [hab]; rfl), rfl⟩))⟩
    rotate_right
    · obtain ⟨h1, h2, cs, fz, h3, h4⟩ := h.ow ho hz hf
      exact ⟨h1, h2, cs, fz, by rw [hb e.b (by unfold Ent.blk; rw [hf])]; exact h3, h4⟩
    · obtain ⟨h1, hn, h2⟩ := h.row i hi
      refine ⟨h1, hn, ?_⟩
      cases hf : e.fam with
      | none =>
        rw [hf] at h2
        exact ⟨h2.1, fun k hk => by rw [cell_block (hb e.b (by unfold Ent.blk; rw [hf]))]; exact h2.2 k hk⟩
      | some f =>
        rw [hf] at h2
        exact fun k hk => by rw [cell_block (hb (f i).1 (by unfold Ent.blk; rw [hf]; exact ⟨i, hi, .inl (by omega), rfl⟩))]; exact h2 k hk
/-- What is only read lies outside what may change. -/
theorem EntOk.old {e : Ent} (h : EntOk C w e) (hz : e.z = false) (ho : e.own = false) : ∀ k, e.blk k → k < C.w0.heap.size ∧ ¬ C.M k := by
  intro k hb
  unfold Ent.blk at hb
  cases hf : e.fam with
  | none => rw [hf] at hb; rw [hb]; exact h.ro ho hz hf
  | some f =>
    rw [hf] at hb
    obtain ⟨i, hi, hs, rfl⟩ := hb
    exact (h.famO hf hi hs).1 ho
theorem Kept.drawn (h : Kept C w) (n : Nat) : Kept C { w with drawn := n } := ⟨h.os, h.tape, h.output, h.size, h.block⟩
theorem Sat.drawn (h : Sat C H w) (n : Nat) : Sat C H { w with drawn := n } := ⟨h.kept.drawn n, fun e he => (h.ents e he).keep (Nat.le_refl _) (.inr fun _ _ => rfl), h.apart⟩
theorem Kept.alloc (h : Kept C w) (o : Obj) : Kept C (w.alloc o) :=
  ⟨h.os, h.tape, h.output, by simp; exact Nat.le_succ_of_le h.size, fun k hk hm => by
    rw [← h.block k hk hm]
    show (w.heap.push o)[k]? = _
    rw [Array.getElem?_push, if_neg (by have := h.size; omega)]⟩
theorem heap_alloc_lt (w : World) (o : Obj) {k : Nat} (h : k < w.heap.size) : (w.alloc o).heap[k]? = w.heap[k]? := by
  show (w.heap.push o)[k]? = _
  rw [Array.getElem?_push, if_neg (by omega)]
theorem heap_alloc_at (w : World) (o : Obj) : (w.alloc o).heap[w.heap.size]? = some o := by
  show (w.heap.push o)[w.heap.size]? = _
  simp

theorem Sat.alloc (h : Sat C H w) (e : Ent) (cs : Array Value) (hb : e.b = w.heap.size) (hown : e.own = true) (hfam : e.fam = none) (h1 : e.one = true → e.n ≤ 1) (hz : e.z = false) (hn : e.n ≤ e.cap) (hc : e.off + e.cap * e.wd ≤ cs.size)
    (hr : ∀ i, i < e.n → (e.get i).wf ∧ (e.get i).nt = true ∧ (e.get i).sz = e.wd ∧ ∀ k, k < e.wd → cs[e.off + i * e.wd + k]? = (e.get i).flat[k]?) : Sat C (e :: H) (w.alloc (.cells cs e.t)) := by
  refine ⟨h.kept.alloc _, fun x hx => ?_, List.pairwise_cons.2 ⟨fun x hx _ _ ho hxz k hk hxk => ?_, h.apart⟩⟩
  · rcases List.mem_cons.1 hx with hx | hx
    · subst hx
      refine ⟨h1, fun ho => (by rw [hown] at ho; cases ho), fun hz' => (by rw [hz] at hz'; cases hz'), fun _ _ _ => ⟨.inl (by rw [hb]; exact h.kept.size), hn, cs, (0, 0), by rw [hb]; exact heap_alloc_at _ _, hc, fun k _ => by simp⟩, fun f hf => (by rw [hfam] at hf; cases hf), fun f hf => (by rw [hfam] at hf; cases hf), fun i hi => ?_⟩
      obtain ⟨r1, rn, r2, r3⟩ := hr i hi
      refine ⟨.inl r1, ntF_nt rn, ?_⟩
      rw [hfam]
      refine ⟨r2, fun k hk => ?_⟩
      rw [hb, World.cell?_alloc_new]
      exact r3 k (by omega)
    · cases hxz : x.z with
      | true => exact (h.ents x hx).keep (by simp) (.inl hxz)
      | false => exact (h.ents x hx).keep (by simp) (.inr fun k hk => heap_alloc_lt w _ ((h.ents x hx).lt hxz h.kept k hk))
  · have := (h.ents x hx).lt hxz h.kept k hxk
    rw [blk_none hfam] at hk
    omega

/-! ### one entry replaced -/
theorem Ap.symm {e e' : Ent} (h : Ap e e') : Ap e' e := fun a b c d k q q' => h c d a b k q' q
theorem set_mem : ∀ (H : Hp) (g : Nat) (e e' : Ent), H.find g = some e → H.Pairwise Ap → ∀ x ∈ H.set g e', x = e' ∨ (x ∈ H ∧ Ap e x)
  | [], g, e, e', h, _, x, hx => by simp [Hp.find] at h
  | y :: r, g, e, e', h, hp, x, hx => by
    obtain ⟨h1, h2⟩ := List.pairwise_cons.1 hp
    simp only [Hp.find_cons] at h
    simp only [Hp.set_cons] at hx
    split at h
    · rename_i hb
      simp only [hb] at hx
      injection h with h
      subst h
      rcases List.mem_cons.1 hx with hx | hx
      · exact .inl hx
      · exact .inr ⟨List.mem_cons_of_mem _ hx, h1 x hx⟩
    · rename_i hb
      simp only [hb] at hx
      rcases List.mem_cons.1 hx with hx | hx
      · subst hx
        refine .inr ⟨List.mem_cons_self .., ?_⟩
        exact (h1 e (find_mem r g e h).1).symm
      · rcases set_mem r g e e' h h2 x hx with hx | ⟨hx, ha⟩
        · exact .inl hx
        · exact .inr ⟨List.mem_cons_of_mem _ hx, ha⟩
theorem set_pair : ∀ (H : Hp) (g : Nat) (e e' : Ent), H.find g = some e → H.Pairwise Ap → (∀ x ∈ H, Ap e x → Ap e' x) → (H.set g e').Pairwise Ap
  | [], g, e, e', h, _, _ => by simp [Hp.find] at h
  | y :: r, g, e, e', h, hp, hi => by
    obtain ⟨h1, h2⟩ := List.pairwise_cons.1 hp
    simp only [Hp.find_cons] at h
    unfold Hp.set
    split at h
    · injection h with h
      subst h
      exact List.pairwise_cons.2 ⟨fun x hx => hi x (List.mem_cons_of_mem _ hx) (h1 x hx), h2⟩
    · refine List.pairwise_cons.2 ⟨fun x hx => ?_, set_pair r g e e' h h2 (fun x hx => hi x (List.mem_cons_of_mem _ hx))⟩
      rcases set_mem r g e e' h h2 x hx with hx | ⟨hx, _⟩
      · subst hx
        have h3 := h1 e (find_mem r g e h).1
        exact (hi y (List.mem_cons_self ..) h3.symm).symm
      · exact h1 x hx
theorem Sat.replace (h : Sat C H w) {g : Nat} {e e' : Ent} (hf : H.find g = some e) (hwr : e.wr = true) (hk : Kept C w') (hsz : w.heap.size ≤ w'.heap.size) (hu : ∀ x ∈ H, ∀ k, x.blk k → x.z = false → (e.z = false → k ≠ e.b) → w'.heap[k]? = w.heap[k]?) (he : EntOk C w' e')
    (ha : ∀ x ∈ H, Ap e x → Ap e' x) : Sat C (H.set g e') w' := by
  obtain ⟨hown, hfam⟩ := wr_iff.1 hwr
  refine ⟨hk, fun x hx => ?_, set_pair H g e e' hf h.apart ha⟩
  rcases set_mem H g e e' hf h.apart x hx with hx | ⟨hx, hap⟩
  · rw [hx]; exact he
  · cases hxz : x.z with
    | true => exact (h.ents x hx).keep hsz (.inl hxz)
    | false =>
      refine (h.ents x hx).keep hsz (.inr fun k hkb => hu x hx k hkb hxz fun hez => ?_)
      cases hxo : x.own with
      | true => exact fun q => hap hown hez hxo hxz k ((blk_none hfam).2 q) hkb
      | false =>
        obtain ⟨r1, r2⟩ := (h.ents x hx).old hxz hxo k hkb
        obtain ⟨s1, _⟩ := (h.ents e (find_mem H g e hf).1).ow hown hez hfam
        rcases s1 with s1 | s1
        · omega
        · intro q; rw [q] at r2; exact r2 s1

theorem Sat.replaceF (h : Sat C H w) {g : Nat} {e e' : Ent} (hf : H.find g = some e) (hk : Kept C w') (hsz : w.heap.size ≤ w'.heap.size) (hu : ∀ x ∈ H, Ap e x → ∀ k, x.blk k → x.z = false → w'.heap[k]? = w.heap[k]?) (he : EntOk C w' e')
    (ha : ∀ x ∈ H, Ap e x → Ap e' x) : Sat C (H.set g e') w' := by
  refine ⟨hk, fun x hx => ?_, set_pair H g e e' hf h.apart ha⟩
  rcases set_mem H g e e' hf h.apart x hx with hx | ⟨hx, hap⟩
  · rw [hx]; exact he
  · cases hxz : x.z with
    | true => exact (h.ents x hx).keep hsz (.inl hxz)
    | false => exact (h.ents x hx).keep hsz (.inr fun k hkb => hu x hx hap k hkb hxz)

/-! ### a row of cells written -/
theorem setCells_block (b : Nat) : ∀ (vs : List Value) (x : Nat) (w : World) (k : Nat), k ≠ b → (w.setCells b x vs).heap[k]? = w.heap[k]?
  | [], _, _, _, _ => rfl
  | v :: r, x, w, k, h => by
    rw [World.setCells, setCells_block b r (x + 1) _ k h]
    simp only [World.setCell, Array.getElem?_modify]
    rw [if_neg (by simpa using Ne.symm h)]
theorem setCells_at (b : Nat) (t : TypeId) (fz : Nat × Nat) : ∀ (vs : List Value) (x : Nat) (w : World) (cs : Array Value), w.heap[b]? = some (.cells cs t fz) →
    ∃ cs', (w.setCells b x vs).heap[b]? = some (.cells cs' t fz) ∧ cs'.size = cs.size ∧ ∀ k, cs'[k]? = if x ≤ k ∧ k < x + vs.length ∧ k < cs.size then vs[k - x]? else cs[k]?
  | [], x, w, cs, h => ⟨cs, h, rfl, fun k => by rw [if_neg (by simp; omega)]⟩
  | v :: r, x, w, cs, h => by
    obtain ⟨cs', h1, h2, h3⟩ := setCells_at b t fz r (x + 1) (w.setCell ⟨b, x, none⟩ v) (cs.setIfInBounds x v) (by simp [World.setCell, Array.getElem?_modify, h])
    refine ⟨cs', h1, by simpa using h2, fun k => ?_⟩
    rw [h3 k]
    simp only [Array.size_setIfInBounds, List.length_cons, Array.getElem?_setIfInBounds]
    by_cases c1 : x + 1 ≤ k ∧ k < x + 1 + r.length ∧ k < cs.size
    · rw [if_pos c1, if_pos (by omega), show k - x = (k - (x + 1)) + 1 from by omega]
      simp
    · rw [if_neg c1]
      by_cases c2 : x = k
      · subst c2
        by_cases c3 : x < cs.size
        · rw [if_pos rfl, if_pos c3, if_pos (by omega)]
          simp
        · rw [if_pos rfl, if_neg c3, if_neg (by omega), Array.getElem?_eq_none (by omega)]
      · rw [if_neg c2, if_neg (by omega)]
theorem setCells_size (b : Nat) : ∀ (vs : List Value) (x : Nat) (w : World), (w.setCells b x vs).heap.size = w.heap.size
  | [], _, _ => rfl
  | v :: r, x, w => by rw [World.setCells, setCells_size b r (x + 1)]; simp
theorem Kept.setCells (h : Kept C w) {b : Nat} (hb : C.w0.heap.size ≤ b ∨ C.M b) (x : Nat) (vs : List Value) : Kept C (w.setCells b x vs) := by
  have hs : ∀ (vs : List Value) (x : Nat) (w : World), (w.setCells b x vs).heap.size = w.heap.size ∧ (w.setCells b x vs).os = w.os ∧ (w.setCells b x vs).tape = w.tape ∧ (w.setCells b x vs).output = w.output := by
    intro vs
    induction vs with
    | nil => intro x w; exact ⟨rfl, rfl, rfl, rfl⟩
    | cons v r ih =>
      intro x w
      obtain ⟨h1, h2, h3, h4⟩ := ih (x + 1) (w.setCell ⟨b, x, none⟩ v)
      exact ⟨by rw [World.setCells, h1]; simp, by rw [World.setCells, h2]; rfl, by rw [World.setCells, h3]; rfl, by rw [World.setCells, h4]; rfl⟩
  obtain ⟨h1, h2, h3, h4⟩ := hs vs x w
  refine ⟨by rw [h2]; exact h.os, by rw [h3]; exact h.tape, by rw [h4]; exact h.output, by rw [h1]; exact h.size, fun k hk hm => ?_⟩
  rw [setCells_block b vs x w k (by rintro rfl; rcases hb with hb | hb; omega; exact hm hb)]
  exact h.block k hk hm
mutual
theorem flat_oneCell : ∀ (v : SV), v.wf → v.nt = true → ∀ u ∈ v.flat, u.oneCell' = true
  | .int _ _, _, _, u, h => by simp [SV.flat] at h; subst h; rfl
  | .bool _, _, _, u, h => by simp [SV.flat] at h; subst h; rfl
  | .str _, _, _, u, h => by simp [SV.flat] at h; subst h; rfl
  | .ptr _ _ _ _, _, _, u, h => by simp [SV.flat] at h; subst h; rfl
  | .slice _ _ _ _ _ _ _ _ _, _, _, u, h => by simp [SV.flat] at h; subst h; rfl
  | .fn _ _ _, _, _, u, h => by simp [SV.flat] at h; subst h; rfl
  | .agg l, hw, _, u, h => flatL_oneCell l hw u h
  | .arr n wd get, hw, _, u, h => by
    simp only [SV.flat, List.mem_flatMap, List.mem_range] at h
    obtain ⟨i, hi, h⟩ := h
    exact flat_oneCell (get i) (hw i hi).1 (hw i hi).2.2 u h
  | .tup _, _, hn, _, _ => by cases hn
  | .iface _ _, _, _, u, h => by simp [SV.flat] at h; subst h; rfl
  | .map _ _ _, _, _, u, h => by simp [SV.flat] at h; subst h; rfl
  | .mobj _ _, _, hn, _, _ => by cases hn
  | .wsl _ _ _ _ _ _ _ _ _, _, _, u, h => by simp [SV.flat] at h; subst h; rfl
  | .val v, hw, _, u, h => by simp [SV.flat] at h; subst h; cases u <;> simp_all [SV.wf, Value.oneCell']
theorem flatL_oneCell : ∀ (l : List SV), SV.wfA l → ∀ u ∈ SV.flatL l, u.oneCell' = true
  | [], _, u, h => by cases h
  | v :: r, hw, u, h => by
    simp only [SV.flatL, List.mem_append] at h
    rcases h with h | h
    · exact flat_oneCell v hw.1 hw.2.1 u h
    · exact flatL_oneCell r hw.2.2 u h
end

/-! ### the operations -/
theorem es_alloc (hE : EnvOk P E) (hO : GOk a G) (hG : gHolds G) (hS : Sat C H w) {t : TypeId} {nx : Nat} {K : SV → Hp → Nat → Prop} (ho : o.op = .alloc t) (h : estep E fr H G nx K (.alloc t)) :
    ∃ v H' nx' w', (execOp a.eval o).run P w = .ok (.value v.den) w' ∧ K v H' nx' ∧ v.wf ∧ Sat C H' w' := by
  simp only [estep] at h
  split at h
  · rename_i ti hti
    obtain ⟨i0, d, ht⟩ := hE.ty t ti hti
    have hl : ti.zero.den.cells.size = ti.zero.sz := by rw [← Array.length_toList, den_cells ht.zwf, len_flat _ ht.zwf]
    split at h
    · refine ⟨_, _, _, w.alloc (.cells ti.zero.den.cells t), ?_, h w.heap.size, trivial, ?_⟩
      · simp [execOp, ho, Instr.alloc, zeroValue, typeInfo, ht.info, ht.zero, newVar, newRow, SV.den, pathOff, PS.off]
      · refine hS.alloc _ ti.zero.den.cells rfl rfl rfl (fun _ => Nat.le_refl _) rfl (Nat.le_refl _) (by simp [hl]) (fun i hi => ?_)
        refine ⟨ht.zwf, ht.znt, rfl, fun k hk => ?_⟩
        have hi0 : i = 0 := by simp at hi; omega
        subst hi0
        rw [← den_cells ht.zwf]
        simp
    · split at h
      · rename_i s0 b0 k0 n wd get
        have hz : ∀ i, i < n → (get i).wf ∧ (get i).sz = wd ∧ (get i).nt = true := ht.zwf
        refine ⟨_, _, _, w.alloc (.cells (SV.arr n wd get).den.cells t), ?_, h w.heap.size, trivial, ?_⟩
        · have hi := ht.info
          have hzz := ht.zero
          simp [execOp, ho, Instr.alloc, zeroValue, typeInfo, hi, hzz, newVar, newRow, SV.den, pathOff, PS.off]
        · refine hS.alloc ⟨nx, w.heap.size, 0, wd, n, get, true, false, n, t, false, none⟩ (SV.arr n wd get).den.cells rfl rfl rfl (fun q => by cases q) rfl (Nat.le_refl _) (by show 0 + n * wd ≤ _; rw [hl]; show 0 + n * wd ≤ n * wd; omega) (fun i hi => ?_)
          obtain ⟨z1, z2, z3⟩ := hz i hi
          refine ⟨z1, z3, z2, fun k hk => ?_⟩
          have e : (SV.arr n wd get).den.cells[0 + i * wd + k]? = (SV.arr n wd get).flat[i * wd + k]? := by
            rw [← den_cells (v := SV.arr n wd get) ht.zwf]
            simp
          show (SV.arr n wd get).den.cells[0 + i * wd + k]? = _
          rw [e]
          exact get_flatMap_range (fun i => (get i).flat) wd n (fun i hi => by rw [len_flat _ (hz i hi).1, (hz i hi).2.1]) i k hi hk
      · exact h.elim
  · exact h.elim

theorem es_box (hA : Has N fr a) (hO : GOk a G) (hG : gHolds G) (hS : Sat C H w) {t : TypeId} {x : Operand} {nx : Nat} {K : SV → Hp → Nat → Prop} (ho : o.op = .box t x) (h : estep E fr H G nx K (.box t x)) :
    ∃ v H' nx' w', (execOp a.eval o).run P w = .ok (.value v.den) w' ∧ K v H' nx' ∧ v.wf ∧ Sat C H' w' := by
  simp only [estep] at h
  split at h
  · rename_i v hv
    split at h
    case h_2 => exact h.elim
    rename_i hn
    obtain ⟨e1, e2⟩ := ev_sound hA hO hG hv
    refine ⟨_, _, _, w.alloc (.cells v.den.cells t), ?_, h w.heap.size, trivial, ?_⟩
    · simp [execOp, ho, Instr.box, newVar, newRow, SV.den, pathOff, PS.off, e1]
    · have hl : v.den.cells.size = v.sz := by rw [← Array.length_toList, den_cells e2, len_flat _ e2]
      refine hS.alloc _ v.den.cells rfl rfl rfl (fun _ => Nat.le_refl _) rfl (Nat.le_refl _) (by simp [hl]) (fun i hi => ?_)
      refine ⟨e2, hn, rfl, fun k hk => ?_⟩
      have hi0 : i = 0 := by simp at hi; omega
      subst hi0
      rw [← den_cells e2]
      simp
  · exact h.elim

theorem storeVar_run {t : TypeId} {ti : TI} {i : TypeInfo} {d : TypeDesc} (ht : TOk P t ti i d) {v : SV} {b x : Nat} (hw : v.wf) (hn : v.nt = true) (hs : v.sz = ti.size)
    (hc : ∀ k, k < v.sz → (w.cell? ⟨b, x + k, none⟩).isSome = true ∧ w.frozen? ⟨b, x + k, none⟩ = false) :
    (storeVar t ⟨b, x, none⟩ v.den).run P w = .ok () (w.setCells b x v.flat) := by
  have hl : v.den.cells.size = v.sz := by rw [← Array.length_toList, den_cells hw, len_flat _ hw]
  have := run_storeCells_cells (P := P) b x v.flat 0 w (fun j hj => by rw [len_flat v hw] at hj; simpa using (hc j hj).1) (fun j hj => by rw [len_flat v hw] at hj; simpa using (hc j hj).2) (fun u hu => flat_oneCell v hw hn u hu)
  simp only [Nat.add_zero] at this
  simp [storeVar, Sem.run_bind, ht.sizeOf_run w, hl, hs, den_cells hw, this]

theorem setRow_sound {e : Ent} {i : Nat} {r : List PS} {v u : SV} {ps : List Ob} (h : setRow e i r v = some (ps, u)) (hp : allTrue ps) (hs : (e.get i).sz = e.wd) : ∃ qs, setAt (e.get i) r v = some (qs, u) ∧ allTrue qs := by
  cases r with
  | nil =>
    simp only [setRow, Option.some.injEq, Prod.mk.injEq] at h
    obtain ⟨rfl, rfl⟩ := h
    obtain ⟨p1, _⟩ := hp
    exact ⟨[.c (Nat.beq v.sz (e.get i).sz)], rfl, by rw [hs]; exact p1, trivial⟩
  | cons s q => exact ⟨ps, h, hp⟩
theorem es_store (hE : EnvOk P E) (hA : Has N fr a) (hO : GOk a G) (hG : gHolds G) (hS : Sat C H w) {t : TypeId} {x y : Operand} {nx : Nat} {K : SV → Hp → Nat → Prop} (ho : o.op = .store t x y) (h : estep E fr H G nx K (.store t x y)) :
    ∃ v H' nx' w', (execOp a.eval o).run P w = .ok .skip w' ∧ v.den = undef ∧ K v H' nx' ∧ v.wf ∧ Sat C H' w' := by
  simp only [estep] at h
  split at h
  · rename_i g b off i wd r hx
    split at h
    · rename_i v hv
      split at h
      · rename_i e he
        split at h
        · rename_i hwr
          obtain ⟨hown, hfam⟩ := wr_iff.1 hwr
          split at h
          · rename_i ti hti
            split at h
            · rename_i ps u hu
              rw [allL_iff] at h
              obtain ⟨⟨⟨p1, p2⟩, p3, p4⟩, hK⟩ := h
              obtain ⟨p4, p5, p6, p7⟩ := idx_sound p4
              have p3 := beqN p3
              have p5 := beqN p5
              have p6 : v.nt = true := p6
              rw [SV.fo_iff] at hK
              obtain ⟨i0, d, ht⟩ := hE.ty t ti hti
              obtain ⟨x1, x2⟩ := ev_sound hA hO hG hx
              obtain ⟨v1, v2⟩ := ev_sound hA hO hG hv
              obtain ⟨hm, _⟩ := find_mem H g e he
              have hent := hS.ents e hm
              have hrow : ∀ k, k < e.n → (e.get k).wf ∧ (e.get k).nt = true ∧ (e.get k).sz = e.wd ∧ Holds w e.b (e.off + k * e.wd) (e.get k) := fun k hk => by
                have := hent.row k hk
                rw [hfam] at this
                exact ⟨wfF_wf this.1 (isM_nt this.2.1), this.2⟩
              obtain ⟨r1, rn, r2, r3⟩ := hrow i p4
              obtain ⟨ps', hu', p7'⟩ := setRow_sound hu p7 r2
              obtain ⟨s1, s2, s3, s4, s5⟩ := setAt_sound r _ v u ps' hu' p7' r1 v2 p6
              have hz : e.z = false := by
                cases hz : e.z with
                | false => rfl
                | true => have := (hent.z hz).1; omega
              obtain ⟨o1, o2, cs, fz, o3, o4, o5⟩ := hent.ow hown hz hfam
              have hle : (i + 1) * e.wd ≤ e.cap * e.wd := Nat.mul_le_mul_right _ (by omega)
              rw [Nat.succ_mul] at hle
              have hcell : ∀ k, k < v.sz → (w.cell? ⟨b, off + (i * wd + pathOff r) + k, none⟩).isSome = true ∧ w.frozen? ⟨b, off + (i * wd + pathOff r) + k, none⟩ = false := fun k hk => by
                subst p1 p2 p3
                have hlt : e.off + (i * e.wd + pathOff r) + k < cs.size := by omega
                refine ⟨by simp [World.cell?, o3, hlt], ?_⟩
                simp only [World.frozen?, o3]
                have := o5 _ hlt
                simpa using this
              have hst := storeVar_run (P := P) ht v2 p6 p5 hcell
              refine ⟨.tup [], _, _, w.setCells b (off + (i * wd + pathOff r)) v.flat, ?_, rfl, hK, trivial, ?_⟩
              · simp only [execOp, ho, x1, v1, SV.den, Instr.storeAt, Instr.sureAddr, Sem.run_bind, Sem.run_pure, Result.andThen_ok, pathOff, PS.off, hst]
              · subst p1 p2 p3
                obtain ⟨cs', c1, c2, c3⟩ := setCells_at e.b e.t fz v.flat (e.off + (i * e.wd + pathOff r)) w cs o3
                refine hS.replace he hwr (hS.kept.setCells o1 _ _) (Nat.le_of_eq (setCells_size _ _ _ _).symm) (fun x hx k hkb hxz hne => setCells_block _ _ _ _ _ (hne hz)) ?_ (fun x hx hap o1 z1 o2 z2 k hk => hap o1 z1 o2 z2 k ((blk_none hfam).2 ((blk_none (e := { e with get := updGet e.one i u e.get }) hfam).1 hk)))
                have hget : ∀ k, k < e.n → updGet e.one i u e.get k = if k = i then u else e.get k := fun k hk => by
                  unfold updGet
                  cases h1 : e.one with
                  | true =>
                    have := hent.one h1
                    rw [if_pos (by omega)]
                  | false => simp only [ite_eq]
                refine ⟨hent.one, hent.ro, hent.z, fun _ _ _ => ⟨o1, o2, cs', fz, c1, by rw [c2]; exact o4, by rw [c2]; exact o5⟩, fun f hf => (by rw [hfam] at hf; cases hf), fun f hf => (by rw [hfam] at hf; cases hf), fun k hk => ?_⟩
                dsimp only at hk ⊢
                rw [hget k hk, hfam]
                have hkc : (k + 1) * e.wd ≤ e.cap * e.wd := Nat.mul_le_mul_right _ (by omega)
                rw [Nat.succ_mul] at hkc
                by_cases hki : k = i
                · subst hki
                  rw [if_pos rfl]
                  refine ⟨.inl s1, s2, by rw [s3, r2], fun j hj => ?_⟩
                  rw [s3, r2] at hj
                  have hlt : e.off + k * e.wd + j < cs.size := by omega
                  simp only [World.cell?, c1]
                  simp only [Option.isSome_none, Bool.false_eq_true, if_false]
                  rw [c3, s5 j, len_flat v v2]
                  by_cases hd : pathOff r ≤ j ∧ j < pathOff r + v.sz
                  · rw [if_pos (by omega), if_pos hd]
                    congr 1
                    omega
                  · rw [if_neg (by omega), if_neg hd]
                    have := r3 j (by omega)
                    simp only [World.cell?, o3, Option.isSome_none, Bool.false_eq_true, if_false] at this
                    exact this
                · rw [if_neg hki]
                  obtain ⟨q1, qn, q2, q3⟩ := hrow k hk
                  refine ⟨.inl q1, qn, q2, fun j hj => ?_⟩
                  rw [q2] at hj
                  have hlt : e.off + k * e.wd + j < cs.size := by omega
                  have := q3 j (by omega)
                  simp only [World.cell?, o3, Option.isSome_none, Bool.false_eq_true, if_false] at this
                  simp only [World.cell?, c1, Option.isSome_none, Bool.false_eq_true, if_false]
                  rw [c3, if_neg, this]
                  rintro ⟨g1, g2, _⟩
                  rw [len_flat v v2] at g2
                  rcases Nat.lt_trichotomy k i with hl | hl | hl
                  · have : (k + 1) * e.wd ≤ i * e.wd := Nat.mul_le_mul_right _ hl
                    rw [Nat.succ_mul] at this
                    omega
                  · exact hki hl
                  · have : (i + 1) * e.wd ≤ k * e.wd := Nat.mul_le_mul_right _ hl
                    rw [Nat.succ_mul] at this
                    omega
            · exact h.elim
          · exact h.elim
        · split at h
          · rename_i f hown hfam
            split at h
            · rename_i ti hti
              split at h
              · rename_i ps u hu
                rw [allL_iff] at h
                obtain ⟨⟨p1, p2, p3⟩, hK⟩ := h
                have p1 : f i = (b, off) := p1
                have p2 := beqN p2
                obtain ⟨pi, pd, p0, p5, p6, p7⟩ := idx_sound p3
                have pd : ∀ j, j < e.n → j ≠ i → (f j).1 ≠ b := pd
                have p0 : 0 < v.sz := Nat.le_of_ble_eq_true p0
                have p5 := beqN p5
                have p6 : v.nt = true := p6
                rw [SV.fo_iff] at hK
                obtain ⟨i0, d, ht⟩ := hE.ty t ti hti
                obtain ⟨x1, x2⟩ := ev_sound hA hO hG hx
                obtain ⟨v1, v2⟩ := ev_sound hA hO hG hv
                obtain ⟨hm, _⟩ := find_mem H g e he
                have hent := hS.ents e hm
                obtain ⟨r1', rn, r3⟩ := hent.row i pi
                have r1 := wfF_wf r1' (setAt_isM hu p7 p0)
                rw [hfam] at r3
                dsimp only at r3
                rw [p1] at r3
                dsimp only at r3
                obtain ⟨s1, s2, s3, s4, s5⟩ := setAt_sound r _ v u ps hu p7 r1 v2 p6
                have hsz : (e.get i).sz ≠ 0 := by omega
                have hz : e.z = false := by
                  cases hz : e.z with
                  | false => rfl
                  | true => have := (hent.z hz).1; omega
                have hblk : e.blk b := by unfold Ent.blk; rw [hfam]; exact ⟨i, pi, .inl hsz, by rw [p1]⟩
                have hwb := ((hent.fam f hfam i pi hsz).2 hown).2
                rw [p1] at hwb
                obtain ⟨cs, tt, fz, o3, o5⟩ := hwb
                dsimp only at o3
                have hin := hent.own_in hown hz hblk
                have hsize : off + (e.get i).sz ≤ cs.size := by
                  apply Nat.le_of_not_lt
                  intro q
                  have h1 := r3 ((e.get i).sz - 1) (by omega)
                  have hfl : (e.get i).flat[(e.get i).sz - 1]? = some ((e.get i).flat[(e.get i).sz - 1]'(by rw [len_flat _ r1]; omega)) := List.getElem?_eq_getElem _
                  rw [hfl] at h1
                  simp only [World.cell?, o3, Option.isSome_none, Bool.false_eq_true, if_false] at h1
                  have := (Array.getElem?_eq_some_iff.1 h1).1
                  omega
                subst p2
                have hcell : ∀ k, k < v.sz → (w.cell? ⟨b, off + (i * 0 + pathOff r) + k, none⟩).isSome = true ∧ w.frozen? ⟨b, off + (i * 0 + pathOff r) + k, none⟩ = false := fun k hk => by
                  have hlt : off + (i * 0 + pathOff r) + k < cs.size := by omega
                  refine ⟨by simp only [World.cell?, o3, Option.isSome_none, Bool.false_eq_true, if_false]; simp only [Array.getElem?_eq_getElem hlt, Option.isSome_some], ?_⟩
                  simp only [World.frozen?, o3]
                  have := o5 _ hlt
                  simpa using this
                have hst := storeVar_run (P := P) ht v2 p6 p5 hcell
                refine ⟨.tup [], _, _, w.setCells b (off + (i * 0 + pathOff r)) v.flat, ?_, rfl, hK, trivial, ?_⟩
                · simp only [execOp, ho, x1, v1, SV.den, Instr.storeAt, Instr.sureAddr, Sem.run_bind, Sem.run_pure, Result.andThen_ok, pathOff, PS.off, hst]
                · obtain ⟨cs', c1, c2, c3⟩ := setCells_at b tt fz v.flat (off + (i * 0 + pathOff r)) w cs o3
                  have hszs : ∀ k, k < e.n → (updFam i u e.get k).sz = (e.get k).sz := fun k hk => by
                    unfold updFam
                    split
                    · rename_i q; rw [q, s3]
                    · rfl
                  have hbk : ∀ k, ({ e with get := updFam i u e.get } : Ent).blk k ↔ e.blk k := fun k => by
                    unfold Ent.blk
                    dsimp only
                    rw [hfam]
                    have hocc : ∀ j, (updFam i u e.get j).occ ↔ (e.get j).occ := fun j => by
                      unfold updFam
                      split
                      · rename_i q
                        rw [q]
                        exact ⟨fun _ => .inl hsz, fun _ => .inl (by rw [s3]; exact hsz)⟩
                      · exact Iff.rfl
                    exact ⟨fun ⟨j, q1, q2, q3⟩ => ⟨j, q1, (hocc j).1 q2, q3⟩, fun ⟨j, q1, q2, q3⟩ => ⟨j, q1, (hocc j).2 q2, q3⟩⟩
                  refine hS.replaceF he (hS.kept.setCells hin _ _) (Nat.le_of_eq (setCells_size _ _ _ _).symm) (fun x hx hap k hkb hxz => setCells_block _ _ _ _ _ ?_) ?_ (fun x hx hap o1 z1 o2 z2 k hk => hap o1 z1 o2 z2 k ((hbk k).1 hk))
                  · cases hxo : x.own with
                    | true => exact fun q => hap hown hz hxo hxz b hblk (q ▸ hkb)
                    | false =>
                      obtain ⟨m1, m2⟩ := (hS.ents x hx).old hxz hxo k hkb
                      rintro rfl
                      rcases hin with q | q
                      · omega
                      · exact m2 q
                  · refine ⟨hent.one, hent.ro, hent.z, (fun _ _ q => by rw [hfam] at q; cases q), fun f' hf' k hk hs' => ?_, fun f' hf' k hk h0 g0 hm0 => ?_, fun k hk => ?_⟩
                    rotate_left
                    · have hf' : e.fam = some f' := hf'
                      have hk : k < e.n := hk
                      have hm0 : updFam i u e.get k = .mobj h0 g0 := hm0
                      unfold updFam at hm0
                      split at hm0
                      · rw [hm0] at s2; cases s2
                      · obtain ⟨q1, q2, q3⟩ := hent.mob f' hf' k hk h0 g0 hm0
                        refine ⟨q1, q2, q3.same (setCells_block _ _ _ _ _ ?_)⟩
                        intro hb
                        obtain ⟨es, clock, y1, _⟩ := q3
                        rw [hb, o3] at y1
                        cases y1
                    rotate_right
                    · have hf' : e.fam = some f' := hf'
                      have hs' : (updFam i u e.get k).sz ≠ 0 := hs'
                      rw [hszs k hk] at hs'
                      obtain ⟨q1, q2⟩ := hent.fam f' hf' k hk hs'
                      refine ⟨q1, fun q => ⟨(q2 q).1, ?_⟩⟩
                      obtain ⟨cs2, t2, fz2, d1, d2⟩ := (q2 q).2
                      by_cases hb : (f' k).1 = b
                      · rw [hb] at d1 ⊢
                        exact ⟨cs', tt, fz, c1, fun j hj => o5 j (by rw [← c2]; exact hj)⟩
                      · exact ⟨cs2, t2, fz2, by rw [setCells_block _ _ _ _ _ hb]; exact d1, d2⟩
                    · have hk : k < e.n := hk
                      obtain ⟨q1, qn, q3⟩ := hent.row k hk
                      rw [hfam] at q3 qn
                      dsimp only at q3 ⊢
                      rw [hfam]
                      unfold updFam
                      by_cases hki : k = i
                      · subst hki
                        rw [if_pos rfl]
                        refine ⟨.inl s1, ntF_nt s2, fun j hj => ?_⟩
                        rw [p1]
                        dsimp only
                        rw [s3] at hj
                        have hlt : off + j < cs.size := by omega
                        simp only [World.cell?, c1]
                        simp only [Option.isSome_none, Bool.false_eq_true, if_false]
                        rw [c3, s5 j, len_flat v v2]
                        by_cases hd : pathOff r ≤ j ∧ j < pathOff r + v.sz
                        · rw [if_pos (by omega), if_pos hd]
                          congr 1
                          omega
                        · rw [if_neg (by omega), if_neg hd]
                          have := r3 j (by omega)
                          simp only [World.cell?, o3, Option.isSome_none, Bool.false_eq_true, if_false] at this
                          exact this
                      · rw [if_neg hki]
                        refine ⟨q1, qn, fun j hj => ?_⟩
                        rw [cell_block (setCells_block _ _ _ _ _ (pd k hk hki))]
                        exact q3 j hj
              · exact h.elim
            · exact h.elim
          · exact h.elim
      · exact h.elim
    · exact h.elim
  · exact h.elim
end
end Eng
