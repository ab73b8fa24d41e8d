/-
  OWN WORK. THE ENGINE, part T: patterns for arrays: in an element, behind a pointer, sliced.
-/
import Derived.Test.YtnibcchhhebfaaaGreatDoorEngQ
namespace Eng
open Go
set_option linter.unusedVariables false
set_option linter.unusedSimpArgs false

section
variable {H : Hp} {C : Ctx} {w : World}
theorem SVeq.arr {n wd : Nat} {f g : Nat → SV} (h : ∀ k, k < n → SVeq (f k) (g k)) (hn : ∀ k, k < n → (g k).nt = true) : SVeq (.arr n wd f) (.arr n wd g) := by
  have hfl : (List.range n).flatMap (fun i => (f i).flat) = (List.range n).flatMap (fun i => (g i).flat) := flatMap_congr_range n fun i hi => (h i hi).flat
  exact ⟨by simp only [SV.den, hfl], by simp only [SV.flat, hfl], rfl, fun hw i hi => ⟨(h i hi).wf (hw i hi).1, by rw [← (h i hi).sz]; exact (hw i hi).2.1, hn i hi⟩⟩
theorem allGet_arr {β : Type} {a : Elt β} {g : Nat → SV} {n : Nat} (h : allGet a g n) : SVeq (.arr n a.wd g) (.arr n a.wd fun k => a.mkv ((a.get (g k)).getD a.dflt)) := by
  refine SVeq.arr (fun k hk => ?_) (fun k _ => (a.wf _).1)
  obtain ⟨y, hy⟩ := Option.isSome_iff_exists.1 (h k hk)
  rw [hy]
  exact (a.ok _ y hy).1
theorem Holds.of_eqv {b o : Nat} {u v : SV} (h : Holds w b o u) (e : SVeq u v) : Holds w b o v := fun k hk => by
  rw [← e.flat]; exact h k (by rw [e.sz]; exact hk)
/-- An array of elements without memory. -/
def Arg.arr {β : Type} (n : Nat) (a : Elt β) : Arg (Nat → β) where
  get := fun v _ => match v with
    | .arr n' wd g => some (.c (Nat.beq n' n) :: .c (Nat.beq wd a.wd) :: .p (allGet a g n) :: [], fun k => (a.get (g k)).getD a.dflt)
    | _ => none
  sv := fun _ x => .arr n a.wd fun k => a.mkv (x k)
  hp := fun _ _ => []
  om := fun _ _ _ => []
  rt := fun _ _ => []
  tags := 0
  tg := fun t _ => .nil t 0
  ok := by
    intro v H ps x h hp hw _ t
    split at h
    · rename_i n' wd g
      simp only [Option.some.injEq, Prod.mk.injEq] at h
      obtain ⟨rfl, rfl⟩ := h
      obtain ⟨p1, p2, p3, _⟩ := hp
      have p1 := beqN p1
      have p2 := beqN p2
      subst p1 p2
      have E := allGet_arr (p3 : allGet a g n')
      exact ⟨⟨E.den.symm, E.flat.symm, E.wf hw, rfl⟩, fun _ h => by cases h⟩
    · cases h
/-- A pointer to an array whose elements have an entry; it is only read. -/
def Arg.prow {β : Type} (n : Nat) (a : Elt β) : Arg (Nat × Nat × (Nat → β)) where
  get := fun v H => match v with
    | .ptr g b off [] => match H.find g with
      | some e => match e.fam with
        | none => some (.p (e.b = b ∧ e.off = off) :: .c (Nat.beq e.wd a.wd) :: .c (Nat.blt 0 a.wd) :: .c (Nat.beq e.n n) :: .c (Nat.blt 0 n) :: .p (allGet a e.get n) :: [], (b, off, fun k => (a.get (e.get k)).getD a.dflt))
        | some _ => none
      | none => none
    | _ => none
  sv := fun t x => .ptr t x.1 x.2.1 []
  hp := fun t x => [⟨t, x.1, x.2.1, a.wd, n, fun k => a.mkv (x.2.2 k), false, false, 0, 0, false, none⟩]
  om := fun _ _ _ => []
  rm := fun t v H => match v with
    | .ptr g _ _ _ => [(t, g)]
    | _ => []
  rt := fun v H => match v with
    | .ptr g _ _ _ => [g]
    | _ => []
  tags := 1
  tg := fun t x => .one rfl
  ok := by
    intro v H ps x h hp hw _ t
    split at h
    · rename_i g b off
      split at h
      · rename_i en hen
        split at h
        · rename_i hfam
          simp only [Option.some.injEq, Prod.mk.injEq] at h
          obtain ⟨rfl, rfl⟩ := h
          obtain ⟨p1, p2, p3, p4, p5, p6, _⟩ := hp
          have p2 := beqN p2
          have p4 := beqN p4
          have p3 : 0 < a.wd := by simpa [Nat.blt_eq] using p3
          have p5 : 0 < n := by simpa [Nat.blt_eq] using p5
          have p6 : allGet a en.get n := p6
          obtain ⟨q1, q2⟩ := (p1 : en.b = b ∧ en.off = off)
          refine ⟨⟨by simp [SV.den], by simp [SV.flat], trivial, rfl⟩, fun e he => .inr ?_⟩
          simp only [List.mem_singleton] at he
          subst he
          refine ⟨rfl, .inl ⟨g, en, List.mem_singleton.2 rfl, hen, fun C w hO => ?_⟩⟩
          have hF := hO.facts_ro
          have hz : en.z = false := hF.nz (i := 0) (by omega)
          have hold := hO.old hz rfl b ((blk_none hfam).2 q1.symm)
          refine ⟨(fun q => by cases q), fun _ _ _ => hold, (fun q => by cases q), (fun q => by cases q), (fun f q => by cases q), (fun f q => by cases q), fun k hk => ?_⟩
          have hk : k < n := hk
          obtain ⟨r1, r2, r3⟩ := hF.2 k (by omega)
          rw [hfam] at r2 r3
          suffices hh : _ from (fun t => ⟨.inl t.1, t.2⟩) (elt_facts (p6 k hk) (wfF_wf r1 (isM_nt r2)) (by rw [r3.1, p2]) hh)
          dsimp only
          rw [← q1, ← q2, ← p2]
          exact r3.2
        · cases h
      · cases h
    · cases h
/-- A pointer to an array whose elements have an entry; it may be written. -/
def Arg.oprow {β : Type} (ty : TypeId) (n : Nat) (a : Elt β) : Arg (Nat × Nat × (Nat → β)) where
  get := fun v H => match v with
    | .ptr g b off [] => match H.find g with
      | some e => match e.wr with
        | true => some (.p (e.b = b ∧ e.off = off) :: .c (Nat.beq e.wd a.wd) :: .c (Nat.beq e.t ty) :: .c (Nat.beq e.n n) :: .c (Nat.beq e.cap n) :: .c (!e.z) :: .p (allGet a e.get n) :: [], (b, off, fun k => (a.get (e.get k)).getD a.dflt))
        | false => none
      | none => none
    | _ => none
  sv := fun t x => .ptr t x.1 x.2.1 []
  hp := fun t x => [⟨t, x.1, x.2.1, a.wd, n, fun k => a.mkv (x.2.2 k), true, false, n, ty, false, none⟩]
  om := fun t v H => match v with
    | .ptr g _ _ _ => [(t, g)]
    | _ => []
  rt := fun _ _ => []
  tags := 1
  tg := fun t x => .one rfl
  ok := by
    intro v H ps x h hp hw _ t
    split at h
    · rename_i g b off
      split at h
      · rename_i en hen
        split at h
        · rename_i hwr
          obtain ⟨hown, hfam⟩ := wr_iff.1 hwr
          simp only [Option.some.injEq, Prod.mk.injEq] at h
          obtain ⟨rfl, rfl⟩ := h
          obtain ⟨p1, p2, p3, p4, p5, p6, p7, _⟩ := hp
          have p2 := beqN p2
          have p3 := beqN p3
          have p4 := beqN p4
          have p5 := beqN p5
          have p6 : en.z = false := by simpa using p6
          have p7 : allGet a en.get n := p7
          obtain ⟨q1, q2⟩ := (p1 : en.b = b ∧ en.off = off)
          refine ⟨⟨by simp [SV.den], by simp [SV.flat], trivial, rfl⟩, fun e he => .inl ?_⟩
          simp only [List.mem_singleton] at he
          subst he
          refine ⟨rfl, g, en, List.mem_singleton.2 rfl, hen, ⟨hwr, rfl⟩, q1.symm, p6.symm, fun C w hO => ?_⟩
          refine ⟨(fun q => by cases q), (fun q => by cases q), (fun q => by cases q), fun _ _ _ => ?_, (fun f q => by cases q), (fun f q => by cases q), fun k hk => ?_⟩
          · obtain ⟨o1, o2, cs, fz, o3, o4, o5⟩ := hO.ow hown p6 hfam
            refine ⟨by rw [← q1]; exact o1, Nat.le_refl _, cs, fz, by rw [← q1, ← p3]; exact o3, ?_, o5⟩
            rw [← q2, ← p2, ← p5]
            exact o4
          · have hk : k < n := hk
            obtain ⟨r1, r2, r3⟩ := hO.row k (by omega)
            rw [hfam] at r2 r3
            suffices hh : _ from (fun t => ⟨.inl t.1, t.2⟩) (elt_facts (p7 k hk) (wfF_wf r1 (isM_nt r2)) (by rw [r3.1, p2]) hh)
            dsimp only
            rw [← q1, ← q2, ← p2]
            exact r3.2
        · cases h
      · cases h
    · cases h
/-- All of an array, sliced; it may be written. -/
def Arg.oarr {β : Type} (ty : TypeId) (n : Nat) (a : Elt β) : Arg (Nat × Nat × (Nat → β)) where
  get := fun v H => match v with
    | .slice g b off [.elt 0 _] wd 0 m c z => match H.find g with
      | some e => match e.wr with
        | true => match e.get 0 with
          | .arr n' wd' q => some (.p (e.b = b ∧ e.off = off) :: .c (Nat.beq n' n) :: .c (Nat.beq wd' a.wd) :: .c (Nat.beq wd a.wd) :: .c (Nat.beq e.wd (n * a.wd)) :: .c (Nat.beq e.t ty) :: .c (Nat.beq e.n 1) :: .c (Nat.beq e.cap 1) :: .c (!e.z) :: .p (m = n ∧ c = n ∧ z = false ∧ allGet a q n) :: [], (b, off, fun k => (a.get (q k)).getD a.dflt))
          | _ => none
        | false => none
      | none => none
    | _ => none
  sv := fun t x => .slice t x.1 x.2.1 [.elt 0 (n * a.wd)] a.wd 0 n n false
  hp := fun t x => [⟨t, x.1, x.2.1, n * a.wd, 1, fun _ => .arr n a.wd fun k => a.mkv (x.2.2 k), true, true, 1, ty, false, none⟩]
  om := fun t v H => match v with
    | .slice g _ _ _ _ _ _ _ _ => [(t, g)]
    | _ => []
  rt := fun _ _ => []
  tags := 1
  tg := fun t x => .one rfl
  ok := by
    intro v H ps x h hp hw _ t
    split at h
    · rename_i g b off w0 wd m c z
      split at h
      · rename_i en hen
        split at h
        · rename_i hwr
          split at h
          · rename_i n' wd' q hq
            obtain ⟨hown, hfam⟩ := wr_iff.1 hwr
            simp only [Option.some.injEq, Prod.mk.injEq] at h
            obtain ⟨rfl, rfl⟩ := h
            obtain ⟨p1, p2, p3, p4, p5, p6, p7, p8, p9, p10, _⟩ := hp
            have p2 := beqN p2
            have p3 := beqN p3
            have p4 := beqN p4
            have p5 := beqN p5
            have p6 := beqN p6
            have p7 := beqN p7
            have p8 := beqN p8
            have p9 : en.z = false := by simpa using p9
            obtain ⟨m1, m2, m3, m4⟩ := (p10 : m = n ∧ c = n ∧ z = false ∧ allGet a q n)
            obtain ⟨q1, q2⟩ := (p1 : en.b = b ∧ en.off = off)
            subst p2 p3 p4 m1 m2 m3
            have E := allGet_arr m4
            refine ⟨⟨by simp [SV.den, pathOff, PS.off], by simp [SV.flat, pathOff, PS.off], hw, rfl⟩, fun e he => .inl ?_⟩
            simp only [List.mem_singleton] at he
            subst he
            refine ⟨rfl, g, en, List.mem_singleton.2 rfl, hen, ⟨hwr, rfl⟩, q1.symm, p9.symm, fun C w hO => ?_⟩
            refine ⟨(fun _ => Nat.le_refl _), (fun q => by cases q), (fun q => by cases q), fun _ _ _ => ?_, (fun f q => by cases q), (fun f q => by cases q), fun k hk => ?_⟩
            · obtain ⟨o1, o2, cs, fz, o3, o4, o5⟩ := hO.ow hown p9 hfam
              refine ⟨by rw [← q1]; exact o1, Nat.le_refl _, cs, fz, by rw [← q1, ← p6]; exact o3, ?_, o5⟩
              rw [← q2, ← p5, ← p8]
              exact o4
            · have hk0 : k = 0 := by dsimp only at hk; omega
              subst hk0
              obtain ⟨r1, r2, r3⟩ := hO.row 0 (by omega)
              rw [hfam] at r2 r3
              have r1 := wfF_wf r1 (isM_nt r2)
              rw [hq] at r1 r3
              refine ⟨.inl (E.wf r1), rfl, ?_, ?_⟩
              · rfl
              · have := r3.2.of_eqv E
                rw [q1, q2, p5] at this
                exact this
          · cases h
        · cases h
      · cases h
    · cases h
instance {β : Type} {n : Nat} {a : Elt β} : Arg.RO (Arg.arr n a) := ⟨fun _ _ _ h => by cases h⟩
instance {β : Type} {n : Nat} {a : Elt β} : Arg.RO (Arg.prow n a) := ⟨fun _ _ e h => by rw [List.mem_singleton.1 h]⟩
end
end Eng
