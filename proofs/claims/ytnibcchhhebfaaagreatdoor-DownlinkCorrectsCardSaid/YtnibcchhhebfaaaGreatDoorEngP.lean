/-
  OWN WORK. THE ENGINE, part P: contracts that are shown by hand; a slice that is nil.
-/
import Derived.Test.YtnibcchhhebfaaaGreatDoorEngN
namespace Eng
open Go
set_option linter.unusedVariables false
set_option linter.unusedSimpArgs false

section
variable {P : Program} {H : Type} {enc : TypeId × Value → H} {W : World} {base : Nat}

structure OpF {β : Type} (enc : TypeId × Value → H) (P : Program) (W : World) (t : TypeId) (a : EltF β) (R I : β → Prop) : Prop where
  op : ∀ fuel cs y, DataW.trod enc P W 0 (fun _ => true) true fuel t cs = some y → Light P t y.1 → ∃ b, R b ∧ I b ∧ ∀ g i, (a.mkv g i b).flat = cs ∧ (a.mkv g i b).wf ∧ (a.mkv g i b).nt = true
  fam : ∀ n xs, (∀ i, i < n → I (xs i)) → ∀ t, ∀ e ∈ a.fams t n xs, EntIn P W e
  sz : P.cellsOf t = a.wd
theorem OpF.elt {β : Type} {t : TypeId} {a : Elt β} {R : β → Prop} (h : OpE enc P W t a R) : OpF enc P W t (.elt a) R (fun _ => True) :=
  ⟨fun fuel cs y hy hlt => by
    obtain ⟨b, b1, b2, b3⟩ := h.op _ _ _ hy hlt
    exact ⟨b, b3, trivial, fun _ _ => ⟨b1, b2, (a.wf b).1⟩⟩, fun _ _ _ _ _ he => (by cases he), h.sz⟩
structure OpFL {β : Type} (enc : TypeId × Value → H) (P : Program) (W : World) (tot off : Nat) (fs : List (TypeId × Nat)) (a : EltFL β) (R I : β → Prop) : Prop where
  op : ∀ n (cs : List Value), cs.length = tot → (∀ f ∈ fs, ∃ y, DataW.trod enc P W 0 (fun _ => true) true n f.1 ((cs.drop f.2).take (P.cellsOf f.1)) = some y ∧ Light P f.1 y.1) →
    ∃ b, R b ∧ I b ∧ ∀ g i, SV.flatL (a.mkv g i b) = cs.drop off ∧ SV.wfA (a.mkv g i b)
  fam : ∀ n xs, (∀ i, i < n → I (xs i)) → ∀ t, ∀ e ∈ a.fams t n xs, EntIn P W e
theorem OpFL.nil {tot : Nat} : OpFL enc P W tot tot [] .nil (fun _ => True) (fun _ => True) :=
  ⟨fun n cs hl _ => ⟨(), trivial, trivial, fun _ _ => ⟨by simp [EltFL.nil, SV.flatL, ← hl], trivial⟩⟩, fun _ _ _ _ _ he => (by cases he)⟩
theorem OpFL.cons {α β : Type} {tot off off' : Nat} {t : TypeId} {fs : List (TypeId × Nat)} {a : EltF α} {r : EltFL β} {R I : α → Prop} {R' I' : β → Prop} (h : OpF enc P W t a R I) (ho' : off' = off + a.wd) (hr : OpFL enc P W tot off' fs r R' I') :
    OpFL enc P W tot off ((t, off) :: fs) (.cons a r) (fun x => R x.1 ∧ R' x.2) (fun x => I x.1 ∧ I' x.2) := by
  refine ⟨fun n cs hl hf => ?_, fun n xs hI t e he => ?_⟩
  · obtain ⟨y, hy, hlt⟩ := hf (t, off) (List.mem_cons_self ..)
    dsimp only at hy hlt
    obtain ⟨b, b1, b2, b3⟩ := h.op _ _ _ hy hlt
    obtain ⟨c, c1, c2, c3⟩ := hr.op n cs hl (fun g hg => hf g (List.mem_cons_of_mem _ hg))
    refine ⟨(b, c), ⟨b1, c1⟩, ⟨b2, c2⟩, fun g i => ⟨?_, ?_⟩⟩
    · show (a.mkv g i b).flat ++ SV.flatL (r.mkv (g + a.tags) i c) = _
      rw [(b3 g i).1, (c3 _ i).1, h.sz, ho', ← List.drop_drop]
      exact List.take_append_drop ..
    · exact ⟨(b3 g i).2.1, (b3 g i).2.2, (c3 _ i).2⟩
  · rcases List.mem_append.1 he with he | he
    · exact h.fam n _ (fun i hi => (hI i hi).1) _ e he
    · exact hr.fam n _ (fun i hi => (hI i hi).2) _ e he
theorem OpF.agg {β : Type} {t : TypeId} {tot : Nat} {l : List (TypeId × Nat)} {a : EltFL β} {R I : β → Prop} (ht : structOf P t = some l) (hs : P.cellsOf t = tot) (hw : a.wd = tot) (h : OpFL enc P W tot 0 l a R I) : OpF enc P W t (.agg a) R I := by
  refine ⟨fun fuel cs y hy hlt => ?_, h.fam, hs.trans hw.symm⟩
  subst hs
  obtain ⟨fs, hu, rfl⟩ := structOf_some ht
  obtain ⟨xs, n, rfl, rfl, hl, hxs, hf⟩ := DataW.trod_struct hu hy
  obtain ⟨b, b1, b2, b3⟩ := h.op n cs hl (fun q hq => by
    obtain ⟨f, hf', rfl⟩ := List.mem_map.1 hq
    obtain ⟨i, hi, hif⟩ := List.mem_iff_getElem.1 hf'
    have hi' : i < fs.size := by simpa using hi
    have h1 : fs[i]? = some f := by rw [← hif]; simp [hi']
    have h2 := hf i f h1
    rw [List.getElem?_eq_getElem (by omega)] at h2
    refine ⟨_, h2, fun n hn => hlt n ?_⟩
    simp only [DataW.weights, hu]
    exact DataW.weights_mem_each (j := i) (t := f.type) (by simp [h1]) (by rw [List.getElem?_map, List.getElem?_eq_getElem (by omega)]; rfl) n hn)
  exact ⟨b, b1, b2, fun g i => ⟨by simpa [EltF.agg, SV.flat] using (b3 g i).1, (b3 g i).2, rfl⟩⟩
theorem OpA.rowF {β : Type} {t e : TypeId} {nb : Nat} {a : EltF β} {R I : β → Prop} (ht : P.underlying t = some (.slice e)) (h : OpF enc P W e a R I) (hs : P.cellsOf t = 1) (hnb : P.bytesOf e = nb) :
    OpA enc P W base t [t] (.rowF a) (fun x => x.n ≤ x.c ∧ x.c * nb ≤ 140737488351232 ∧ ∀ i, i < x.n → R (x.f i)) := by
  refine ⟨fun fuel cs y hy hlt0 hc => ?_, hs⟩
  have hmax : maxLen ≤ 9223372036854775807 := by decide
  rcases Deep.open_slice ht hy with ⟨rfl, _⟩ | ⟨ad, len, cap, m, n, D, Pl, rfl, hb, hl, hcm, hm, rfl, hx⟩
  · refine ⟨⟨0, 0, 0, 0, true, fun _ => a.dflt⟩, ⟨Nat.le_refl _, by simp, fun i hi => absurd hi (Nat.not_lt_zero i)⟩, fun g => ⟨by simp [Arg.rowF, SV.flat], ⟨fun _ => ⟨rfl, rfl⟩, Nat.le_refl _, Nat.zero_le _⟩, rfl, fun e he => ?_⟩⟩
    rcases List.mem_cons.1 he with he | he
    · subst he
      refine ⟨rfl, ⟨fun q => (by cases q), fun _ q => (by cases q), fun _ => ⟨rfl, rfl⟩, fun q => (by cases q), fun f q => (by cases q), fun f q => (by cases q), fun i hi => absurd hi (Nat.not_lt_zero i)⟩⟩
    · exact h.fam 0 _ (fun i hi => absurd hi (Nat.not_lt_zero i)) _ e he
  · have hok := hc 0 _ t rfl rfl
    simp only [Cell.okWide, ht, Cell.ok] at hok
    obtain ⟨_, _, _, hspot, row, cells, hshape, _⟩ := hok
    have hlt := shape_lt hshape
    obtain ⟨bk, of, sp⟩ := ad
    dsimp only at hspot
    subst hspot
    have hm : m = cap := hm
    have hmlen : len ≤ m := by rw [hm]; exact hl
    have hlt1 : ∀ n ∈ (len + (m - len)) * nb :: (DataW.weightsAll P e ((List.range len).map D) ++ DataW.weightsAll P e ((List.range (m - len)).map fun j => D (len + j))), n ≤ 140737488351232 := by
      have := hlt0
      simpa only [Light, DataW.weights, ht, List.length_map, List.length_range, hnb] using this
    have hcap : cap * nb ≤ 140737488351232 := by
      have := hlt1 _ (List.mem_cons_self ..)
      rwa [show len + (m - len) = cap by omega] at this
    have hD : ∀ i, i < m → Light P e (D i) := fun i hi n hn => hlt1 n (List.mem_cons_of_mem _ (by
      by_cases hil : i < len
      · exact List.mem_append_left _ (weights_all (List.mem_map.2 ⟨i, List.mem_range.2 hil, rfl⟩) n hn)
      · exact List.mem_append_right _ (weights_all (List.mem_map.2 ⟨i - len, List.mem_range.2 (by omega), by rw [show len + (i - len) = i by omega]⟩) n hn)))
    have hex : ∀ i, i < m → ∃ b : β, R b ∧ I b ∧ ∀ g j, (a.mkv g j b).wf ∧ (a.mkv g j b).nt = true ∧ (a.mkv g j b).sz = a.wd ∧ Holds W bk (of + i * a.wd) (a.mkv g j b) := fun i hi => by
      obtain ⟨cs', h1, h2⟩ := hx i hi
      obtain ⟨b, b1, b2, b3⟩ := h.op _ _ _ h2 (hD i hi)
      obtain ⟨_, c2, c3⟩ := World.cells?_some h1
      refine ⟨b, b1, b2, fun g j => ?_⟩
      obtain ⟨d1, d2, d3⟩ := b3 g j
      have hsz : (a.mkv g j b).sz = a.wd := by rw [← len_flat _ d2, d1, c2, h.sz]
      refine ⟨d2, d3, hsz, fun k hk => ?_⟩
      rw [d1, ← c3 k (by rw [h.sz, ← hsz]; exact hk), add_none, add_none, h.sz]
    let f : Nat → β := fun i => if hi : i < m then Classical.choose (hex i hi) else a.dflt
    have hf : ∀ i, i < m → R (f i) ∧ I (f i) ∧ ∀ g j, (a.mkv g j (f i)).wf ∧ (a.mkv g j (f i)).nt = true ∧ (a.mkv g j (f i)).sz = a.wd ∧ Holds W bk (of + i * a.wd) (a.mkv g j (f i)) := fun i hi => by
      have : f i = Classical.choose (hex i hi) := dif_pos hi
      rw [this]
      exact Classical.choose_spec (hex i hi)
    refine ⟨⟨bk, of, len, cap, false, f⟩, ⟨hl, hcap, fun i hi => (hf i (Nat.lt_of_lt_of_le hi hmlen)).1⟩, fun g => ⟨by simp [Arg.rowF, SV.flat, pathOff], ⟨fun q => (by cases q), hl, Nat.le_trans hcm hmax⟩, rfl, fun en he => ?_⟩⟩
    rcases List.mem_cons.1 he with he | he
    · subst he
      refine ⟨rfl, ⟨fun q => (by cases q), fun _ _ _ => ⟨hlt, fun q => q⟩, fun q => ⟨by simpa using q, rfl⟩, fun q => (by cases q), fun f q => (by cases q), fun f q => (by cases q), fun i hi => ?_⟩⟩
      exact (fun q => ⟨.inl q.1, q.2⟩) ((hf i (Nat.lt_of_lt_of_le hi hmlen)).2.2 _ _)
    · exact h.fam len _ (fun i hi => (hf i (Nat.lt_of_lt_of_le hi hmlen)).2.1) _ en he
end
end Eng
namespace Eng
open Go
set_option linter.unusedVariables false
set_option linter.unusedSimpArgs false

section
variable {P : Program} {H : Hp} {C : Ctx} {w w' : World}
/-- A contract whose calls are shown by hand. -/
theorem ecC_hand {α Y : Type} {L : ArgL α} {pre : α → List Prop} {post : α → Y → Prop} {res : α → Y → SV} {ents : α → Y → Hp} {k : Nat} {f : FuncId} (hgo : GoFn P f)
    (h : ∀ x, allT (pre x) → (∀ v ∈ L.svs 0 x, v.wf) → ∀ C w, Sat C (L.hp 0 x) w → Calls P f (SV.denL (L.svs 0 x)).toArray w fun e w' => ∃ y, post x y ∧ (res x y).wf ∧ e = .returned (res x y).den ∧ Sat C (ents x y) w')
    (ho : ∀ x y, ∀ e ∈ ents x y, e.own = true) : EcOk P f (ecC L pre post res ents k) := by
  intro args H nx K hc hw
  refine ⟨hgo, fun C w hS => ?_⟩
  unfold ecC at hc
  split at hc
  · rename_i qs x hx
    split at hc
    · rename_i hB
      rw [allL_iff] at hc
      obtain ⟨p1, hc⟩ := hc
      replace hc := hc x rfl
      rw [allL_iff] at hc
      obtain ⟨p2, hc⟩ := hc
      obtain ⟨d, _, _, g, e⟩ := L.ok args H qs x hx p1 hw ⟨C, w, hS⟩ 0
      have hS0 := src_view hS hB e ((L.tg 0 x).1.imp fun h _ _ => h)
      rw [← d]
      refine (h x ((pOb_true _).1 p2) g _ w hS0).mono ?_
      rintro e w' ⟨y, k1, k5, rfl, k6⟩
      have hr := rt_eq (tau (L.om 0 args H ++ L.rm 0 args H) L.tags nx) (res x y)
      have hS1 := (hS.split (sndL (L.om 0 args H))).unframe (rt_sat (tau (L.om 0 args H ++ L.rm 0 args H) L.tags nx) k6)
      rw [unfr_all (fun e he => by
        rw [hprt_eq] at he
        obtain ⟨u, hu, rfl⟩ := List.mem_map.1 he
        have := ho x y u hu
        cases u; exact this)] at hS1
      exact ⟨_, _, nx + k, hc y k1, hr.2.2.2.2 k5, by rw [hr.1], hS1⟩
    · exact hc.elim
  · exact hc.elim
/-- A slice that is nil. -/
def Arg.nilS : Arg Unit where
  get := fun v _ => match v with
    | .slice _ _ _ _ _ _ _ _ z => some ([.p (z = true)], ())
    | _ => none
  sv := fun _ _ => nilSlice
  hp := fun _ _ => []
  om := fun _ _ _ => []
  rt := fun _ _ => []
  tags := 0
  tg := fun t _ => .nil t 0
  ok := by
    intro v H ps x h hp hw _ t
    split at h
    · rename_i z
      simp only [Option.some.injEq, Prod.mk.injEq] at h
      obtain ⟨rfl, _⟩ := h
      have hz : z = true := hp.1
      subst hz
      obtain ⟨h1, h2⟩ := hw.1 rfl
      subst h1 h2
      exact ⟨⟨rfl, rfl, ⟨fun _ => ⟨rfl, rfl⟩, Nat.le_refl _, by omega⟩, rfl⟩, fun _ h => by cases h⟩
    · cases h
instance : Arg.RO Arg.nilS := ⟨fun _ _ _ h => by cases h⟩
end
end Eng
