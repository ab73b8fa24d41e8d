/-
  OWN WORK. THE ENGINE, part S: maps keyed by integers: made, written, deleted from.
-/
import Derived.Test.YtnibcchhhebfaaaGreatDoorEngI
namespace Eng
open Go
set_option linter.unusedVariables false
set_option linter.unusedSimpArgs false

section
variable {P : Program} {E : Env} {N : Nat} {fr : Fr} {a : Act} {G : Gd} {H : Hp} {C : Ctx} {w w' : World} {o : Oper}

theorem updMap_eq {n i : Nat} {u : SV} {get : Nat → SV} (hi : i < n) {k : Nat} (hk : k < n) : updMap n i u get k = if k = i then u else get k := by
  unfold updMap
  split
  · rw [if_pos (by omega)]
  · rfl
/-- A map of a family has another content. -/
theorem Sat.mapSet (hS : Sat C H w) {g : Nat} {e : Ent} (he : H.find g = some e) (hown : e.own = true) {f : Nat → Nat × Nat} (hfam : e.fam = some f) {i b : Nat} (hb : (f i).1 = b) (hi : i < e.n) (hd : ∀ j, j < e.n → j ≠ i → (f j).1 ≠ b)
    {h0 : Int → Bool} {g0 : Int → SV} (hm : e.get i = .mobj h0 g0) {es : Array MapEntry} {clock : Nat} {h' : Int → Bool} {g' : Int → SV} (hM : MapIs { w with heap := w.heap.setIfInBounds b (.map es clock) } b h' g') :
    Sat C (H.set g { e with get := updMap e.n i (.mobj h' g') e.get }) { w with heap := w.heap.setIfInBounds b (.map es clock) } := by
  obtain ⟨hmem, _⟩ := find_mem H g e he
  have hent := hS.ents e hmem
  have hz : e.z = false := by
    cases hz : e.z with
    | false => rfl
    | true => have := (hent.z hz).1; omega
  obtain ⟨_, hin, es0, cl0, hb0, _⟩ := hent.mob f hfam i hi h0 g0 hm
  have hin := hin hown
  rw [hb] at hin hb0
  have hset := MapKept.heap_set (o' := .map es clock) hb0
  have hocc0 : (e.get i).occ := .inr (by rw [hm]; rfl)
  have hblk : e.blk b := by unfold Ent.blk; rw [hfam]; exact ⟨i, hi, hocc0, hb⟩
  have hbk : ∀ k, ({ e with get := updMap e.n i (.mobj h' g') e.get } : Ent).blk k ↔ e.blk k := fun k => by
    unfold Ent.blk
    dsimp only
    rw [hfam]
    have hocc : ∀ j, j < e.n → ((updMap e.n i (.mobj h' g') e.get j).occ ↔ (e.get j).occ) := fun j hj => by
      rw [updMap_eq hi hj]
      split
      · rename_i q
        rw [q]
        exact ⟨fun _ => hocc0, fun _ => .inr rfl⟩
      · exact Iff.rfl
    exact ⟨fun ⟨j, q1, q2, q3⟩ => ⟨j, q1, (hocc j q1).1 q2, q3⟩, fun ⟨j, q1, q2, q3⟩ => ⟨j, q1, (hocc j q1).2 q2, q3⟩⟩
  have hnot : ∀ k, C.w0.heap.size ≤ k ∨ C.M k → ∀ r, r < C.w0.heap.size → ¬ C.M r → r ≠ k := fun k hk r h1 h2 q => by
    subst q
    rcases hk with hk | hk
    · omega
    · exact h2 hk
  refine hS.replaceF he ⟨hS.kept.os, hS.kept.tape, hS.kept.output, by simpa using hS.kept.size, fun k h1 h2 => (hset.2 k (hnot b hin k h1 h2)).trans (hS.kept.block k h1 h2)⟩ (by simp) (fun x hx hap k hkb hxz => hset.2 k ?_) ?_
    (fun x hx hap o1 z1 o2 z2 k hk => hap o1 z1 o2 z2 k ((hbk k).1 hk))
  · cases hxo : x.own with
    | true => exact fun q => hap hown hz hxo hxz b hblk (q ▸ hkb)
    | false =>
      obtain ⟨m1, m2⟩ := (hS.ents x hx).old hxz hxo k hkb
      exact hnot b hin k m1 m2
  · refine ⟨hent.one, hent.ro, hent.z, (fun _ _ q => by rw [hfam] at q; cases q), fun f' hf' k hk hs' => ?_, fun f' hf' k hk ha ga hma => ?_, fun k hk => ?_⟩
    · have hf' : e.fam = some f' := hf'
      have hk : k < e.n := hk
      have hs' : (updMap e.n i (.mobj h' g') e.get k).sz ≠ 0 := hs'
      rw [updMap_eq hi hk] at hs'
      split at hs'
      · exact absurd rfl hs'
      · obtain ⟨q1, q2⟩ := hent.fam f' hf' k hk hs'
        refine ⟨q1, fun q => ⟨(q2 q).1, ?_⟩⟩
        obtain ⟨cs, t, fz, c1, c2⟩ := (q2 q).2
        refine ⟨cs, t, fz, (hset.2 _ ?_).trans c1, c2⟩
        intro q3
        rw [q3, hb0] at c1
        cases c1
    · have hf' : e.fam = some f' := hf'
      have hk : k < e.n := hk
      rw [hfam] at hf'
      cases hf'
      have hma2 : updMap e.n i (.mobj h' g') e.get k = .mobj ha ga := hma
      clear hma
      rw [updMap_eq hi hk] at hma2
      by_cases q : k = i
      · rw [if_pos q] at hma2
        subst q
        cases hma2
        obtain ⟨q1, q2, _⟩ := hent.mob f hfam k hi h0 g0 hm
        exact ⟨q1, q2, by rw [hb]; exact hM⟩
      · rw [if_neg q] at hma2
        obtain ⟨q1, q2, q3⟩ := hent.mob f hfam k hk ha ga hma2
        exact ⟨q1, q2, q3.same (hset.2 _ (hd k hk q))⟩
    · have hk : k < e.n := hk
      dsimp only
      rw [updMap_eq hi hk, hfam]
      obtain ⟨r1, r2, r3⟩ := hent.row k hk
      rw [hfam] at r2 r3
      by_cases q : k = i
      · rw [if_pos q]
        exact ⟨.inr rfl, .inr rfl, fun j hj => absurd hj (Nat.not_lt_zero _)⟩
      · rw [if_neg q]
        exact ⟨r1, r2, fun j hj => by rw [cell_block (w := w) (hset.2 _ (hd k hk q))]; exact r3 j hj⟩

theorem es_makeMap (hE : EnvOk P E) (hS : Sat C H w) {t : TypeId} {rs : Option Operand} {nx : Nat} {K : SV → Hp → Nat → Prop} (ho : o.op = .makeMap t rs) (h : estep E fr H G nx K (.makeMap t rs)) :
    ∃ v H' nx' w', (execOp a.eval o).run P w = .ok (.value v.den) w' ∧ K v H' nx' ∧ v.wf ∧ Sat C H' w' := by
  cases rs with
  | some r => simp [estep] at h
  | none =>
    simp only [estep] at h
    split at h
    · split at h
      · split at h
        · rename_i te hte
          refine ⟨_, _, _, w.alloc (.map #[] 0), ?_, h w.heap.size, trivial, ?_⟩
          · simp [execOp, ho, Instr.makeMap, SV.den]
          · refine ⟨hS.kept.alloc _, fun x hx => ?_, List.pairwise_cons.2 ⟨fun x hx _ _ hox hxz k hk hxk => ?_, hS.apart⟩⟩
            · rcases List.mem_cons.1 hx with hx | hx
              · subst hx
                refine ⟨(fun q => by cases q), (fun q => by cases q), (fun q => by cases q), (fun _ _ q => by cases q), (fun f hf i hi hs => absurd rfl hs), fun f hf i hi h0 g0 hm => ?_, fun i hi => ⟨.inr rfl, .inr rfl, fun j hj => absurd hj (Nat.not_lt_zero _)⟩⟩
                cases hf
                cases hm
                exact ⟨(fun q => by cases q), fun _ => .inl hS.kept.size, #[], 0, heap_alloc_at _ _, MapKept.stamped_empty 0, (fun e he => by simp at he), fun x hx => by cases hx⟩
              · cases hxz : x.z with
                | true => exact (hS.ents x hx).keep (by simp) (.inl hxz)
                | false => exact (hS.ents x hx).keep (by simp) (.inr fun k hk => heap_alloc_lt w _ ((hS.ents x hx).lt hxz hS.kept k hk))
            · have := (hS.ents x hx).lt hxz hS.kept k hxk
              unfold Ent.blk at hk
              obtain ⟨_, _, _, rfl⟩ := hk
              exact absurd this (Nat.lt_irrefl _)
        · exact h.elim
      · exact h.elim
    · exact h.elim
theorem MapIs.push {b : Nat} {h : Int → Bool} {g : Int → SV} {es : Array MapEntry} {clock : Nat} {x : Int} {u : SV} (k : MapIs w b h g) (hb : w.heap[b]? = some (.map es clock)) (hx : ∀ e ∈ es.toList, e.key ≠ .int .i64 x) (hu : u.wf) (hn : u.nt = true) (ha : u.isAgg = false) :
    MapIs { w with heap := w.heap.setIfInBounds b (.map (es.push { key := .int .i64 x, val := u.den, born := clock }) (clock + 1)) } b (fun z => h z || decide (z = x)) (fun z => SV.ite (z = x) u (g z)) := by
  obtain ⟨es0, cl0, h1, h2, h3, h4⟩ := k
  rw [hb] at h1
  cases h1
  refine ⟨_, _, (MapKept.heap_set hb).1, MapKept.stamped_push h2 hx, fun e he => ?_, fun z hz => ?_⟩
  · simp only [Array.toList_push, List.mem_append, List.mem_singleton] at he
    rcases he with he | rfl
    · obtain ⟨y, y1, y2, y3⟩ := h3 e he
      have hne : y ≠ x := fun q => hx e he (by rw [y1, q])
      exact ⟨y, y1, by simp [y2], by dsimp only; rw [ite_eq, if_neg hne]; exact y3⟩
    · exact ⟨x, rfl, by simp, by dsimp only; rw [ite_eq, if_pos rfl]⟩
  · dsimp only
    rw [ite_eq]
    by_cases q : z = x
    · rw [if_pos q]
      exact ⟨hu, hn, ha, _, by simp; exact .inr rfl, by rw [q]⟩
    · rw [if_neg q]
      obtain ⟨q1, q2, q3, e, q4, q5⟩ := h4 z (by simpa [q] using hz)
      exact ⟨q1, q2, q3, e, by simp; exact .inl (by simpa using q4), q5⟩
theorem MapIs.put {b : Nat} {h : Int → Bool} {g : Int → SV} {es : Array MapEntry} {clock : Nat} {x : Int} {u : SV} (k : MapIs w b h g) (hb : w.heap[b]? = some (.map es clock)) {j : Nat} {e0 : MapEntry} (hj : es.toList[j]? = some e0) (hk : e0.key = .int .i64 x) (hu : u.wf) (hn : u.nt = true) (ha : u.isAgg = false) :
    MapIs { w with heap := w.heap.setIfInBounds b (.map (es.modify j fun e => { e with key := .int .i64 x, val := u.den }) clock) } b (fun z => h z || decide (z = x)) (fun z => SV.ite (z = x) u (g z)) := by
  obtain ⟨es0, cl0, h1, h2, h3, h4⟩ := k
  rw [hb] at h1
  cases h1
  have hj' : es[j]? = some e0 := by simpa using hj
  have hget : ∀ i : Nat, (es.modify j fun e => { e with key := .int .i64 x, val := u.den })[i]? = if j = i then es[i]?.map (fun e => { e with key := .int .i64 x, val := u.den }) else es[i]? := fun i => by
    rw [Array.getElem?_modify]
  have hmem : ∀ e : MapEntry, e ∈ (es.modify j fun e => { e with key := .int .i64 x, val := u.den }).toList → e = { e0 with key := .int .i64 x, val := u.den } ∨ (e ∈ es.toList ∧ e.key ≠ .int .i64 x) := fun e he => by
    obtain ⟨i, hi⟩ := List.getElem?_of_mem he
    have hi : (es.modify j fun e => { e with key := .int .i64 x, val := u.den })[i]? = some e := by rw [← Array.getElem?_toList]; exact hi
    rw [hget i] at hi
    by_cases q : j = i
    · subst q
      rw [if_pos rfl, hj'] at hi
      simp at hi
      exact .inl hi.symm
    · rw [if_neg q] at hi
      refine .inr ⟨List.mem_of_getElem? (by simpa using hi), fun hk2 => q ?_⟩
      have hnd := (MapKept.stamped_iff es clock).1 h2 |>.2.2
      have hl1 : es.toList[j]? = some e0 := hj
      have hl2 : es.toList[i]? = some e := by simpa using hi
      obtain ⟨j1, j2⟩ := List.getElem?_eq_some_iff.1 hl1
      obtain ⟨i1, i2⟩ := List.getElem?_eq_some_iff.1 hl2
      rw [List.pairwise_iff_getElem] at hnd
      rcases Nat.lt_trichotomy j i with hlt | hlt | hlt
      · exact absurd (by rw [j2, i2, hk, hk2]) (hnd j i j1 i1 hlt)
      · exact hlt
      · exact absurd (by rw [j2, i2, hk, hk2]) (hnd i j i1 j1 hlt)
  refine ⟨_, _, (MapKept.heap_set hb).1, MapKept.stamped_modify h2 _ _ (fun _ _ => rfl) (fun e' _ he' => by rw [hj'] at he'; cases he'; exact hk.symm), fun e he => ?_, fun z hz => ?_⟩
  · rcases hmem e he with rfl | ⟨he, hne⟩
    · exact ⟨x, rfl, by simp, by dsimp only; rw [ite_eq, if_pos rfl]⟩
    · obtain ⟨y, y1, y2, y3⟩ := h3 e he
      have hne' : y ≠ x := fun q => hne (by rw [y1, q])
      exact ⟨y, y1, by simp [y2], by dsimp only; rw [ite_eq, if_neg hne']; exact y3⟩
  · dsimp only
    rw [ite_eq]
    by_cases q : z = x
    · rw [if_pos q]
      refine ⟨hu, hn, ha, { e0 with key := .int .i64 x, val := u.den }, ?_, by rw [q]⟩
      refine List.mem_of_getElem? (i := j) ?_
      have := hget j
      rw [if_pos rfl, hj'] at this
      rw [Array.getElem?_toList]
      exact this
    · rw [if_neg q]
      obtain ⟨q1, q2, q3, e, q4, q5⟩ := h4 z (by simpa [q] using hz)
      refine ⟨q1, q2, q3, e, ?_, q5⟩
      obtain ⟨i, hi⟩ := List.getElem?_of_mem q4
      refine List.mem_of_getElem? (i := i) ?_
      have := hget i
      rw [if_neg (fun hji => by
        subst hji
        rw [hj] at hi
        cases hi
        rw [hk] at q5
        injection q5 with _ q5
        exact q q5.symm)] at this
      have hi' : es[i]? = some e := by simpa using hi
      rw [hi'] at this
      rw [Array.getElem?_toList]
      exact this
theorem MapIs.keep {b : Nat} {h : Int → Bool} {g : Int → SV} {es : Array MapEntry} {clock : Nat} {x : Int} (k : MapIs w b h g) (hb : w.heap[b]? = some (.map es clock)) (hx : ∀ e ∈ es.toList, e.key ≠ .int .i64 x) :
    MapIs { w with heap := w.heap.setIfInBounds b (.map es clock) } b (fun z => h z && !decide (z = x)) g := by
  obtain ⟨es0, cl0, h1, h2, h3, h4⟩ := k
  rw [hb] at h1
  cases h1
  refine ⟨_, _, (MapKept.heap_set hb).1, h2, fun e he => ?_, fun z hz => h4 z (by simp at hz; exact hz.1)⟩
  obtain ⟨y, y1, y2, y3⟩ := h3 e he
  have hne : y ≠ x := fun q => hx e he (by rw [y1, q])
  exact ⟨y, y1, by simp [y2, hne], y3⟩
theorem MapIs.erase {b : Nat} {h : Int → Bool} {g : Int → SV} {es : Array MapEntry} {clock : Nat} {x : Int} (k : MapIs w b h g) (hb : w.heap[b]? = some (.map es clock)) {j : Nat} {e0 : MapEntry} (hj : es.toList[j]? = some e0) (hk : e0.key = .int .i64 x) :
    MapIs { w with heap := w.heap.setIfInBounds b (.map (es.eraseIdxIfInBounds j) clock) } b (fun z => h z && !decide (z = x)) g := by
  obtain ⟨es0, cl0, h1, h2, h3, h4⟩ := k
  rw [hb] at h1
  cases h1
  have hjl : j < es.size := by have := (List.getElem?_eq_some_iff.1 hj).1; simpa using this
  have hl : (es.eraseIdxIfInBounds j).toList = es.toList.eraseIdx j := by
    unfold Array.eraseIdxIfInBounds
    rw [dif_pos hjl]
    simp
  have hnd := (MapKept.stamped_iff es clock).1 h2 |>.2.2
  have huniq : ∀ (i : Nat) (e : MapEntry), es.toList[i]? = some e → e.key = .int .i64 x → i = j := fun i e hi hk2 => by
    obtain ⟨j1, j2⟩ := List.getElem?_eq_some_iff.1 hj
    obtain ⟨i1, i2⟩ := List.getElem?_eq_some_iff.1 hi
    rw [List.pairwise_iff_getElem] at hnd
    rcases Nat.lt_trichotomy j i with hlt | hlt | hlt
    · exact absurd (by rw [j2, i2, hk, hk2]) (hnd j i j1 i1 hlt)
    · exact hlt.symm
    · exact absurd (by rw [j2, i2, hk, hk2]) (hnd i j i1 j1 hlt)
  refine ⟨_, _, (MapKept.heap_set hb).1, MapKept.stamped_erase h2 j, fun e he => ?_, fun z hz => ?_⟩
  · rw [hl, List.mem_eraseIdx_iff_getElem?] at he
    obtain ⟨i, hne, hi⟩ := he
    obtain ⟨y, y1, y2, y3⟩ := h3 e (List.mem_of_getElem? hi)
    have hne' : y ≠ x := fun q => hne (huniq i e hi (by rw [y1, q]))
    exact ⟨y, y1, by simp [y2, hne'], y3⟩
  · simp at hz
    obtain ⟨q1, q2, q3, e, q4, q5⟩ := h4 z hz.1
    refine ⟨q1, q2, q3, e, ?_, q5⟩
    rw [hl, List.mem_eraseIdx_iff_getElem?]
    obtain ⟨i, hi⟩ := List.getElem?_of_mem q4
    refine ⟨i, fun hij => ?_, hi⟩
    subst hij
    rw [hj] at hi
    cases hi
    rw [hk] at q5
    injection q5 with _ q5
    exact hz.2 q5.symm

theorem es_mapUpdate (hE : EnvOk P E) (hA : Has N fr a) (hO : GOk a G) (hG : gHolds G) (hS : Sat C H w) {t : TypeId} {m k y : Operand} {nx : Nat} {K : SV → Hp → Nat → Prop} (ho : o.op = .mapUpdate t m k y ∨ o.op = .insert t m k y) (h : estep E fr H G nx K (.mapUpdate t m k y)) :
    ∃ v H' nx' w', (execOp a.eval o).run P w = .ok .skip w' ∧ v.den = undef ∧ K v H' nx' ∧ v.wf ∧ Sat C H' w' := by
  simp only [estep] at h
  split at h
  · rename_i g b i hm
    obtain ⟨m1, m2⟩ := ev_sound hA hO hG hm
    split at h
    · rename_i x hk
      obtain ⟨k1, k2⟩ := ev_sound hA hO hG hk
      split at h
      · rename_i u hy
        obtain ⟨u1, u2⟩ := ev_sound hA hO hG hy
        split at h
        · rename_i e he
          split at h
          · rename_i f s1 s2 kt et z hown hfam hti
            split at h
            · rename_i s3 s4 z2 htk
              split at h
              · rename_i h0 g0 hg0
                rw [allL_iff] at h
                obtain ⟨⟨p1, p2, p3, p4, p5, _⟩, hK⟩ := h
                have p1 : (f i).1 = b := p1
                have p2 : i < e.n := p2
                have p3 : ∀ j, j < e.n → j ≠ i → (f j).1 ≠ b := p3
                have p4 : u.isAgg = false := by simpa using p4
                have p5 : u.nt = true := p5
                obtain ⟨t0, d, ht⟩ := hE.ty t _ hti
                obtain ⟨t1, d1, ht1⟩ := hE.ty kt _ htk
                have hd : d = .map kt et := ht.kind
                have hd1 : d1 = .int .i64 := ht1.kind
                subst hd hd1
                have hM := ((hS.ents e (find_mem H g e he).1).mob f hfam i p2 h0 g0 hg0).2.2
                rw [p1] at hM
                obtain ⟨es, clock, q1, q2, q3, q4⟩ := hM.find x
                have hck := MapKept.run_checkKey (P := P) (w := w) ht1.under (k := .int .i64 x) rfl false 9999
                simp only [SV.den] at m1 k1
                rcases q4 with ⟨_, r1, r2⟩ | ⟨_, j, en, r1, r2, r3, _⟩
                · refine ⟨.tup [], _, _, { w with heap := w.heap.setIfInBounds b (.map (es.push { key := .int .i64 x, val := u.den, born := clock }) (clock + 1)) }, ?_, rfl, hK, trivial, hS.mapSet he hown hfam p1 p2 p3 hg0 (hM.push q1 r2 u2 p5 p4)⟩
                  rcases ho with ho | ho <;> simp [execOp, ho, m1, k1, u1, Instr.mapUpdate, run_underlying ht.under, MapKept.run_getObj_map q1, hck, MapKept.run_findKey ht1.under r1, MapKept.run_setObj_map _ q1, Result.andThen]
                · have hj : es[j]? = some en := by rw [← Array.getElem?_toList]; exact r2
                  refine ⟨.tup [], _, _, { w with heap := w.heap.setIfInBounds b (.map (es.modify j fun e => { e with key := .int .i64 x, val := u.den }) clock) }, ?_, rfl, hK, trivial, hS.mapSet he hown hfam p1 p2 p3 hg0 (hM.put q1 r2 r3 u2 p5 p4)⟩
                  rcases ho with ho | ho <;> simp [execOp, ho, m1, k1, u1, Instr.mapUpdate, run_underlying ht.under, MapKept.run_getObj_map q1, hck, MapKept.run_findKey ht1.under r1, hj, r3, MapKept.run_keyThatStays (d := .int .i64) (k := .int .i64 x) rfl, MapKept.run_setObj_map _ q1, Result.andThen]
              · exact h.elim
            · exact h.elim
          · exact h.elim
        · exact h.elim
      · exact h.elim
    · exact h.elim
  · exact h.elim
theorem MapIs.len {b : Nat} {h : Int → Bool} {g : Int → SV} (k : MapIs w b h g) : ∃ es clock, w.heap[b]? = some (.map es clock) ∧ ∃ l : List Int, l.Nodup ∧ (∀ x, h x = true ↔ x ∈ l) ∧ l.length = es.size := by
  obtain ⟨es, clock, h1, h2, h3, h4⟩ := k
  obtain ⟨_, _, s3⟩ := (MapKept.stamped_iff es clock).1 h2
  have key : ∀ (L : List MapEntry), (∀ e ∈ L, ∃ x, e.key = .int .i64 x ∧ h x = true ∧ e.val = (g x).den) → L.Pairwise (fun x y => x.key ≠ y.key) → ∃ l : List Int, l.length = L.length ∧ l.Nodup ∧ ∀ x, x ∈ l ↔ ∃ e ∈ L, e.key = .int .i64 x := by
    intro L
    induction L with
    | nil => exact fun _ _ => ⟨[], rfl, List.nodup_nil, fun x => by simp⟩
    | cons e r ih =>
      intro q1 q2
      obtain ⟨p1, p2⟩ := List.pairwise_cons.1 q2
      obtain ⟨l, l1, l2, l3⟩ := ih (fun e he => q1 e (List.mem_cons_of_mem _ he)) p2
      obtain ⟨x, x1, _⟩ := q1 e (List.mem_cons_self ..)
      refine ⟨x :: l, by simp [l1], List.nodup_cons.2 ⟨fun hx => ?_, l2⟩, fun y => ?_⟩
      · obtain ⟨e', he', k'⟩ := (l3 x).1 hx
        exact p1 e' he' (x1.trans k'.symm)
      · rw [List.mem_cons, l3 y]
        constructor
        · rintro (rfl | ⟨e', he', k'⟩)
          · exact ⟨e, List.mem_cons_self .., x1⟩
          · exact ⟨e', List.mem_cons_of_mem _ he', k'⟩
        · rintro ⟨e', he', k'⟩
          rcases List.mem_cons.1 he' with rfl | he'
          · rw [x1] at k'
            injection k' with _ k'
            exact .inl k'.symm
          · exact .inr ⟨e', he', k'⟩
  obtain ⟨l, l1, l2, l3⟩ := key es.toList h3 s3
  refine ⟨es, clock, h1, l, l2, fun x => ?_, by simpa using l1⟩
  rw [l3 x]
  constructor
  · intro hx
    exact (h4 x hx).2.2.2
  · rintro ⟨e, he, ke⟩
    obtain ⟨y, y1, y2, _⟩ := h3 e he
    rw [y1] at ke
    injection ke with _ ke
    rw [← ke]; exact y2
theorem es_len (hE : EnvOk P E) (hA : Has N fr a) (hO : GOk a G) (hG : gHolds G) (hS : Sat C H w) {args : Array Operand} {tys : Array TypeId} {nx : Nat} {K : SV → Hp → Nat → Prop} (ho : o.op = .call { callee := .builtin .len, args := args, argTypes := tys }) (h : estep E fr H G nx K (.call { callee := .builtin .len, args := args, argTypes := tys })) :
    ∃ v H' nx' w', (execOp a.eval o).run P w = .ok (.value v.den) w' ∧ K v H' nx' ∧ v.wf ∧ Sat C H' w' := by
  simp only [estep] at h
  split at h
  · rename_i g b i hav
    obtain ⟨f1, f2⟩ := evs_sound hA hO hG _ _ hav
    have harr : args.map a.eval = #[(SV.map g b i).den] := by
      have : (args.map a.eval).toList = [(SV.map g b i).den] := by simpa [SV.denL] using f1
      exact Array.ext' this
    split at h
    · rename_i t e htys he
      have htys' : tys = #[t] := Array.ext' htys
      subst htys'
      split at h
      · rename_i f s1 s2 kt et z hfam hti
        split at h
        · rename_i h0 g0 hg0
          rw [allL_iff] at h
          obtain ⟨⟨p1, p2, _⟩, hK⟩ := h
          have p1 : (f i).1 = b := p1
          have p2 : i < e.n := p2
          obtain ⟨t0, d, ht⟩ := hE.ty t _ hti
          have hd : d = .map kt et := ht.kind
          subst hd
          have hM := ((hS.ents e (find_mem H g e he).1).mob f hfam i p2 h0 g0 hg0).2.2
          rw [p1] at hM
          obtain ⟨es, clock, q1, l, l1, l2, l3⟩ := hM.len
          refine ⟨.int .i64 (es.size : Int), _, _, w, ?_, hK es.size ⟨l, l1, l2, l3⟩, trivial, hS⟩
          simp [execOp, ho, Sem.run_bind, resolve, invoke, builtin, harr, SV.den, Builtin.len_, run_underlying ht.under, MapKept.run_getObj_map q1, Result.andThen, goInt]
        · exact h.elim
      · exact h.elim
    · exact h.elim
  · exact h.elim
theorem es_delete (hE : EnvOk P E) (hA : Has N fr a) (hO : GOk a G) (hG : gHolds G) (hS : Sat C H w) {args : Array Operand} {tys : Array TypeId} {nx : Nat} {K : SV → Hp → Nat → Prop} (ho : o.op = .call { callee := .builtin .delete, args := args, argTypes := tys }) (h : estep E fr H G nx K (.call { callee := .builtin .delete, args := args, argTypes := tys })) :
    ∃ v H' nx' w', (execOp a.eval o).run P w = .ok (.value v.den) w' ∧ K v H' nx' ∧ v.wf ∧ Sat C H' w' := by
  simp only [estep] at h
  split at h
  · rename_i g b i x hav
    obtain ⟨f1, f2⟩ := evs_sound hA hO hG _ _ hav
    have harr : args.map a.eval = #[(SV.map g b i).den, (SV.int .i64 x).den] := by
      have : (args.map a.eval).toList = [(SV.map g b i).den, (SV.int .i64 x).den] := by simpa [SV.denL] using f1
      exact Array.ext' this
    split at h
    · rename_i t t' e htys he
      have htys' : tys = #[t, t'] := Array.ext' htys
      subst htys'
      have hexec : ∀ r w', (Builtin.delete_ #[t, t'] o.type #[(SV.map g b i).den, (SV.int .i64 x).den]).run P w = .ok r w' → (execOp a.eval o).run P w = .ok (.value r) w' := fun r w' hr => by
        simp only [execOp, ho, Sem.run_bind, resolve, Sem.run_pure, Result.andThen_ok, invoke, builtin, harr, hr]
      split at h
      · rename_i f s1 s2 kt et z hown hfam hti
        split at h
        · rename_i s3 s4 z2 htk
          split at h
          · rename_i h0 g0 hg0
            rw [allL_iff] at h
            obtain ⟨⟨p1, p2, p3, _⟩, hK⟩ := h
            have p1 : (f i).1 = b := p1
            have p2 : i < e.n := p2
            have p3 : ∀ j, j < e.n → j ≠ i → (f j).1 ≠ b := p3
            obtain ⟨t0, d, ht⟩ := hE.ty t _ hti
            obtain ⟨t1, d1, ht1⟩ := hE.ty kt _ htk
            have hd : d = .map kt et := ht.kind
            have hd1 : d1 = .int .i64 := ht1.kind
            subst hd hd1
            have hM := ((hS.ents e (find_mem H g e he).1).mob f hfam i p2 h0 g0 hg0).2.2
            rw [p1] at hM
            obtain ⟨es, clock, q1, q2, q3, q4⟩ := hM.find x
            have hck := MapKept.run_checkKey (P := P) (w := w) ht1.under (k := .int .i64 x) rfl es.isEmpty 9999
            rcases q4 with ⟨_, r1, r2⟩ | ⟨_, j, en, r1, r2, r3, _⟩
            · refine ⟨.tup [], _, _, { w with heap := w.heap.setIfInBounds b (.map es clock) }, hexec _ _ ?_, hK, trivial, hS.mapSet he hown hfam p1 p2 p3 hg0 (hM.keep q1 r2)⟩
              simp [SV.den, SV.denL, Builtin.delete_, run_underlying ht.under, MapKept.run_getObj_map q1, hck, MapKept.run_findKey ht1.under r1, MapKept.run_setObj_map _ q1, Result.andThen]
            · refine ⟨.tup [], _, _, { w with heap := w.heap.setIfInBounds b (.map (es.eraseIdxIfInBounds j) clock) }, hexec _ _ ?_, hK, trivial, hS.mapSet he hown hfam p1 p2 p3 hg0 (hM.erase q1 r2 r3)⟩
              simp [SV.den, SV.denL, Builtin.delete_, run_underlying ht.under, MapKept.run_getObj_map q1, hck, MapKept.run_findKey ht1.under r1, MapKept.run_setObj_map _ q1, Result.andThen]
          · exact h.elim
        · exact h.elim
      · exact h.elim
    · exact h.elim
  · exact h.elim
end
end Eng
