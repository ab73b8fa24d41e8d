/-
  OWN WORK. THE ENGINE, part F: slices, literals, calls: pure operations, all of them.
-/
import Derived.Test.YtnibcchhhebfaaaGreatDoorEngE
namespace Eng
open Go
set_option linter.unusedVariables false
set_option linter.unusedSimpArgs false

theorem uptoL_go (get : Nat → SV) : ∀ (n : Nat) (acc : List SV), uptoL.go get n acc = (List.range n).map get ++ acc
  | 0, acc => by simp [uptoL.go]
  | n + 1, acc => by rw [uptoL.go, uptoL_go get n, List.range_succ]; simp
theorem uptoL_eq (get : Nat → SV) (n : Nat) : uptoL get n = (List.range n).map get := by simp [uptoL, uptoL_go]

theorem foldl_set (vs : List Value) : ∀ (off st : Nat) (cs : Array Value), off + st + vs.length ≤ cs.size →
    ((vs.zipIdx st).foldl (fun cs (x : Value × Nat) => cs.setIfInBounds (off + x.2) x.1) cs).toList = (cs.toList.take (off + st) ++ vs ++ cs.toList.drop (off + st + vs.length)) := by
  induction vs with
  | nil => intro off st cs h; simp
  | cons v r ih =>
    intro off st cs h
    simp only [List.zipIdx_cons, List.foldl_cons]
    simp only [List.length_cons] at h
    rw [ih off (st + 1) _ (by simp; omega)]
    simp only [Array.toList_setIfInBounds, List.length_cons]
    apply List.ext_getElem?
    intro j
    have hl : cs.toList.length = cs.size := by simp
    simp only [List.getElem?_append, List.length_take, List.length_set, List.length_append, List.getElem?_take, List.getElem?_drop, List.getElem?_set, List.length_cons, List.getElem?_cons]
    rcases Nat.lt_trichotomy j (off + st) with hj | hj | hj
    · have e1 : min (off + (st + 1)) cs.toList.length = off + st + 1 := by omega
      have e2 : min (off + st) cs.toList.length = off + st := by omega
      simp only [e1, e2]
      simp [show j < off + st + 1 from by omega, show j < off + st from hj, show j < off + (st + 1) from by omega, show ¬ off + st = j from by omega, show j < off + st + 1 + r.length from by omega, show j < off + st + (r.length + 1) from by omega]
    · subst hj
      have e1 : min (off + (st + 1)) cs.toList.length = off + st + 1 := by omega
      have e2 : min (off + st) cs.toList.length = off + st := by omega
      simp only [e1, e2]
      simp [show off + st < cs.size from by omega]
      omega
    · have e1 : min (off + (st + 1)) cs.toList.length = off + st + 1 := by omega
      have e2 : min (off + st) cs.toList.length = off + st := by omega
      simp only [e1, e2]
      have h1 : ¬ j < off + st + 1 := by omega
      have h2 : ¬ j < off + st := by omega
      have h3 : ¬ j - (off + st) = 0 := by omega
      simp only [h1, h2, h3, if_false]
      by_cases hjr : j < off + st + 1 + r.length
      · simp only [show j < off + st + 1 + r.length from hjr, show j < off + st + (r.length + 1) from by omega, if_true]
        congr 1
      · simp only [show ¬ j < off + st + 1 + r.length from hjr, show ¬ j < off + st + (r.length + 1) from by omega, if_false]
        rw [if_neg (by omega)]
        congr 1
        omega

section
variable {P : Program} {E : Env} {N : Nat} {fr : Fr} {a : Act} {G : Gd} {H : Hp} {C : Ctx} {w : World} {o : Oper}

theorem build_fill (hA : Has N fr a) (hO : GOk a G) (hG : gHolds G) {pl : Nat → Option (Nat × Nat)} {place : Nat → Option (Nat × Nat)} (hpl : ∀ k x, pl k = some x → place k = some x) :
    ∀ (parts : List (Nat × Operand)) (z x : List SV) (ps : List Ob), buildL fr G pl parts z = some (ps, x) → allTrue ps → SV.wfA z →
      Instr.fill place (SV.flatL z).toArray (parts.map fun q => (q.1, a.eval q.2)) = some (SV.flatL x).toArray ∧ SV.wfA x ∧ x.length = z.length ∧ ∀ (i : Nat) (u : SV), x[i]? = some u → ∃ u' : SV, z[i]? = some u' ∧ u.sz = u'.sz
  | [], z, x, ps, h, _, hw => by
    simp only [buildL, Option.some.injEq, Prod.mk.injEq] at h
    obtain ⟨_, rfl⟩ := h
    exact ⟨rfl, hw, rfl, fun i u hu => ⟨u, hu, rfl⟩⟩
  | (k, op) :: r, z, x, ps, h, hp, hw => by
    simp only [buildL] at h
    split at h
    · rename_i v hv
      split at h
      · rename_i u hu
        split at h
        · rename_i off sz hpk
          split at h
          · rename_i qs y hy
            split at h
            case h_2 => cases h
            rename_i hvn
            simp only [Option.some.injEq, Prod.mk.injEq] at h
            obtain ⟨rfl, rfl⟩ := h
            obtain ⟨p1, p2, p3, p4⟩ := hp
            have p1 := beqN p1
            have p2 := beqN p2
            have p3 := beqN p3
            rw [nth_eq] at hu
            rw [setNth_eq] at hy
            obtain ⟨e1, e2⟩ := ev_sound hA hO hG hv
            obtain ⟨s1, s2, s3⟩ := part_set z k u v hw e2 hvn p3 hu
            obtain ⟨q1, q2⟩ := part_of z k u hw hu
            obtain ⟨h1, h2, h3, h4⟩ := build_fill hA hO hG hpl r _ y qs hy p4 s1
            refine ⟨?_, h2, by simpa using h3, fun i u' hu' => ?_⟩
            · have hc : (a.eval op).cells = v.flat.toArray := by rw [e1]; apply Array.ext'; rw [den_cells e2]
              have hlen : v.flat.length = sz := by rw [len_flat v e2, p2]
              have hzl : (SV.flatL z).length = SV.sz.szL z := len_flatL z hw
              have hfit : ¬ (SV.flatL z).toArray.size < off + (a.eval op).cells.size := by
                rw [hc]; simp only [List.size_toArray]; omega
              simp only [List.map_cons, Instr.fill, hpl k _ hpk]
              rw [if_neg (by
                rw [hc]
                simp only [List.size_toArray, Bool.or_eq_true, decide_eq_true_eq, not_or, ne_eq]
                refine ⟨by simpa using hlen, by omega⟩)]
              rw [← h1]
              congr 1
              apply Array.ext'
              rw [hc]
              have := foldl_set v.flat off 0 (SV.flatL z).toArray (by simp only [List.size_toArray, Nat.add_zero]; omega)
              simp only [Nat.add_zero] at this
              rw [← Array.foldl_toList]
              simp only [Array.toList_zipIdx]
              refine this.trans ?_
              apply List.ext_getElem?
              intro j
              rw [s3 j, ← p1]
              simp only [List.getElem?_append, List.length_take, List.length_append, List.getElem?_take, List.getElem?_drop]
              have e4 : min off (SV.flatL z).length = off := by omega
              simp only [e4]
              by_cases c1 : j < off
              · rw [if_pos (by omega), if_pos c1, if_pos c1, if_neg (by omega)]
              · by_cases c2 : j < off + v.flat.length
                · rw [if_pos c2, if_neg c1, if_pos (by rw [len_flat v e2] at c2; omega)]
                · rw [if_neg c2, if_neg (by rw [len_flat v e2] at c2; omega)]
                  congr 1
                  omega
            · obtain ⟨u2, hu2, hs2⟩ := h4 i u' hu'
              rw [List.getElem?_set] at hu2
              split at hu2
              · rename_i hki
                subst hki
                split at hu2
                · injection hu2 with hu2
                  subst hu2
                  exact ⟨u, hu, by rw [hs2, p3]⟩
                · cases hu2
              · exact ⟨u2, hu2, hs2⟩
          · cases h
        · cases h
      · cases h
    · cases h

theorem mapM_places {fs : List Field} (h : ∀ (k : Nat) f, fs[k]? = some f → ∃ i, P.info? f.type = some i) :
    ∃ places : List (Nat × Nat), fs.mapM (fun f => (P.info? f.type).map fun i => (f.offset, i.size)) = some places ∧ ∀ (k : Nat) (f : Field) (i : TypeInfo), fs[k]? = some f → P.info? f.type = some i → places[k]? = some (f.offset, i.size) := by
  induction fs with
  | nil => exact ⟨[], rfl, fun k f i hk => by simp at hk⟩
  | cons f r ih =>
    obtain ⟨i, hi⟩ := h 0 f rfl
    obtain ⟨pl, h1, h2⟩ := ih (fun k g hg => h (k + 1) g (by simpa using hg))
    refine ⟨(f.offset, i.size) :: pl, by simp [List.mapM_cons, hi, h1], fun k g j hk hj => ?_⟩
    cases k with
    | zero => simp at hk; subst hk; rw [hi] at hj; injection hj with hj; subst hj; rfl
    | succ k => simp at hk; simpa using h2 k g j hk hj

theorem flat_arr_list (d : Nat → SV) : ∀ (l : List SV) , ((List.range l.length).flatMap fun k => ((nth l k).getD (d k)).flat) = SV.flatL l := by
  intro l
  rw [flatL_eq, ← List.flatMap_map (f := fun k => (nth l k).getD (d k)) (g := SV.flat)]
  congr 1
  apply List.ext_getElem?
  intro j
  rw [List.getElem?_map]
  by_cases hj : j < l.length
  · simp [hj, nth_eq]
  · simp [hj]

theorem ps_build (hE : EnvOk P E) (hA : Has N fr a) (hO : GOk a G) (hG : gHolds G) {t : TypeId} {parts : Array (Nat × Operand)} {v : SV} {ps : List Ob} (ho : o.op = .build t parts) (h : pstep E fr H G (.build t parts) = some (ps, v)) (hp : allTrue ps) :
    v.wf ∧ (execOp a.eval o).run P w = .ok (.value v.den) w := by
  simp only [pstep] at h
  have hmap : (parts.map fun q => (q.1, a.eval q.2)).toList = parts.toList.map fun q => (q.1, a.eval q.2) := by simp
  split at h
  · rename_i s1 s2 fs z hti
    split at h
    · rename_i qs l hb
      simp only [Option.some.injEq, Prod.mk.injEq] at h
      obtain ⟨rfl, rfl⟩ := h
      obtain ⟨t0, d, ht⟩ := hE.ty t _ hti
      obtain ⟨fields, rfl, hsz, hfl⟩ := ht.kind
      obtain ⟨places, m1, m2⟩ := mapM_places (P := P) (fs := fields.toList) (fun k f hk => by
        have hkl : k < fs.length := by
          rw [← hsz]
          have := (List.getElem?_eq_some_iff.1 hk).1
          simpa using this
        obtain ⟨f', fi, f1, f2, f3, f4, f5⟩ := hfl k fs[k].1 fs[k].2 (by rw [nth_eq, List.getElem?_eq_getElem hkl])
        have : f' = f := by
          rw [← Array.getElem?_toList] at f1
          rw [hk] at f1
          injection f1 with f1
          exact f1.symm
        subst this
        exact ⟨fi, by rw [f3]; exact f4⟩)
      have hpl : ∀ k x, placeS E fs k = some x → (places.toArray[·]?) k = some x := fun k x hx => by
        simp only [placeS] at hx
        split at hx
        · rename_i of ft hf
          split at hx
          · rename_i fi hfi
            injection hx with hx
            subst hx
            obtain ⟨f', fi', f1, f2, f3, f4, f5⟩ := hfl k of ft hf
            obtain ⟨j0, d', ht'⟩ := hE.ty ft _ hfi
            have e : fi' = j0 := by rw [ht'.info] at f4; injection f4 with f4; exact f4.symm
            have := m2 k f' fi' (by rw [← Array.getElem?_toList] at f1; exact f1) (by rw [f3]; exact f4)
            simp only [List.getElem?_toArray]
            rw [this, f2, e, ht'.size]
          · cases hx
        · cases hx
      obtain ⟨b1, b2, _, _⟩ := build_fill hA hO hG hpl parts.toList z l _ hb hp ht.zwf
      refine ⟨b2, ?_⟩
      have := run_build (P := P) w t (parts.map fun q => (q.1, a.eval q.2)) (SV.flatL l).toArray (by
        unfold Program.built
        simp only [ht.info, ht.under, ht.zero, m1, hmap]
        simpa [SV.den, Value.cells] using b1)
      simp only [execOp, ho, Sem.run_bind]
      rw [show (parts.map fun x => match x with | (i, x) => (i, a.eval x)) = (parts.map fun q => (q.1, a.eval q.2)) from rfl, this]
      simp [SV.den]
    · cases h
  · rename_i s1 s2 n e m wd get hti
    split at h
    · rename_i te hte
      split at h
      · rename_i qs l hb
        simp only [Option.some.injEq, Prod.mk.injEq] at h
        obtain ⟨rfl, rfl⟩ := h
        obtain ⟨p1, p2, p3⟩ := hp
        have p1 := beqN p1
        have p2 := beqN p2
        obtain rfl : m = n := p1.symm
        obtain ⟨t0, d, ht⟩ := hE.ty t _ hti
        obtain ⟨t1, d1, ht1⟩ := hE.ty e _ hte
        have hd : d = .array m e := ht.kind
        subst hd
        have hzw : ∀ i, i < m → (get i).wf ∧ (get i).sz = wd ∧ (get i).nt = true := ht.zwf
        have hz2 : SV.wfA (uptoL get m) := by
          rw [wfA_iff, uptoL_eq]
          intro v hv
          obtain ⟨i, hi, rfl⟩ := List.mem_map.1 hv
          exact ⟨(hzw i (List.mem_range.1 hi)).1, (hzw i (List.mem_range.1 hi)).2.2⟩
        have hflat : SV.flatL (uptoL get m) = (List.range m).flatMap fun i => (get i).flat := by
          rw [flatL_eq, uptoL_eq, List.flatMap_map]
        obtain ⟨b1, b2, b3, b4⟩ := build_fill (place := fun i => some (i * t1.size, t1.size)) hA hO hG (fun k x hx => by rw [ht1.size]; exact hx) parts.toList _ l qs hb p3 hz2
        have hlen : l.length = m := by rw [b3, uptoL_eq]; simp
        refine ⟨fun i hi => ?_, ?_⟩
        · have hg : nth l i = some (l[i]'(by omega)) := by rw [nth_eq, List.getElem?_eq_getElem]
          obtain ⟨u', hu', hs'⟩ := b4 i _ (List.getElem?_eq_getElem (by omega))
          simp only [hg, Option.getD_some]
          refine ⟨((wfA_iff l).1 b2 _ (List.getElem_mem _)).1, ?_, ((wfA_iff l).1 b2 _ (List.getElem_mem _)).2⟩
          rw [hs']
          rw [uptoL_eq, List.getElem?_map, List.getElem?_range hi] at hu'
          simp at hu'
          rw [← hu']
          exact (hzw i hi).2.1
        · have := run_build (P := P) w t (parts.map fun q => (q.1, a.eval q.2)) (SV.flatL l).toArray (by
            unfold Program.built
            simp only [ht.info, ht.under, ht.zero, ht1.info, hmap]
            simpa [SV.den, Value.cells, hflat] using b1)
          simp only [execOp, ho, Sem.run_bind]
          rw [show (parts.map fun x => match x with | (i, x) => (i, a.eval x)) = (parts.map fun q => (q.1, a.eval q.2)) from rfl, this]
          have hfl := flat_arr_list get l
          rw [hlen] at hfl
          simp [SV.den, hfl]
      · cases h
    · cases h
  · cases h
end
end Eng
