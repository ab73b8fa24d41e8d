/-
  OWN WORK. THE ENGINE, part B: plain lemmas on symbolic values.
-/
import Derived.Test.YtnibcchhhebfaaaGreatDoorEngA
namespace Eng
open Go

theorem denL_eq (l : List SV) : SV.denL l = l.map SV.den := by
  induction l with
  | nil => rfl
  | cons v r ih => simp [SV.denL, ih]
theorem flatL_eq (l : List SV) : SV.flatL l = l.flatMap SV.flat := by
  induction l with
  | nil => rfl
  | cons v r ih => simp [SV.flatL, ih]
theorem wfL_iff (l : List SV) : SV.wfL l ↔ ∀ v ∈ l, v.wf := by
  induction l with
  | nil => simp [SV.wfL]
  | cons v r ih => simp [SV.wfL, ih]
theorem wfA_iff (l : List SV) : SV.wfA l ↔ ∀ v ∈ l, v.wf ∧ v.nt = true := by
  induction l with
  | nil => simp [SV.wfA]
  | cons v r ih => simp [SV.wfA, ih, and_assoc]
theorem den_cells {v : SV} (h : v.wf) : v.den.cells.toList = v.flat := by
  cases v with
  | val v => cases v <;> simp_all [SV.den, SV.flat, Value.cells, SV.wf]
  | _ => simp [SV.den, SV.flat, Value.cells]

theorem nth_eq {α : Type} (l : List α) (n : Nat) : nth l n = l[n]? := by
  induction l generalizing n with
  | nil => simp [nth]
  | cons a r ih => cases n <;> simp [nth, ih]
theorem setNth_eq {α : Type} (l : List α) (n : Nat) (x : α) : setNth l n x = l.set n x := by
  induction l generalizing n with
  | nil => simp [setNth]
  | cons a r ih => cases n <;> simp [setNth, ih]

theorem len_flatMap_range (f : Nat → List Value) (wd : Nat) : ∀ n, (∀ i, i < n → (f i).length = wd) → ((List.range n).flatMap f).length = n * wd := by
  intro n
  induction n with
  | zero => simp
  | succ n ih =>
    intro h
    rw [List.range_succ, List.flatMap_append, List.length_append, ih (fun i hi => h i (by omega))]
    simp [h n (by omega), Nat.succ_mul]
theorem get_flatMap_range (f : Nat → List Value) (wd : Nat) : ∀ n, (∀ i, i < n → (f i).length = wd) → ∀ i k, i < n → k < wd → ((List.range n).flatMap f)[i * wd + k]? = (f i)[k]? := by
  intro n
  induction n with
  | zero => intro _ i k hi; omega
  | succ n ih =>
    intro h i k hi hk
    have hl := len_flatMap_range f wd n (fun i hi => h i (by omega))
    rw [List.range_succ, List.flatMap_append]
    by_cases hin : i < n
    · have hlt : i * wd + k < n * wd := by
        have h1 : (i + 1) * wd ≤ n * wd := Nat.mul_le_mul_right _ hin
        rw [Nat.succ_mul] at h1
        omega
      rw [List.getElem?_append_left (by omega)]
      exact ih (fun i hi => h i (by omega)) i k hin hk
    · have e : i = n := by omega
      subst e
      rw [List.getElem?_append_right (by omega), hl]
      simp

mutual
theorem len_flat : ∀ (v : SV), v.wf → v.flat.length = v.sz
  | .int _ _, _ => rfl
  | .bool _, _ => rfl
  | .str _, _ => rfl
  | .ptr _ _ _ _, _ => rfl
  | .slice _ _ _ _ _ _ _ _ _, _ => rfl
  | .fn _ _ _, _ => rfl
  | .agg l, h => by
    have := len_flatL l h
    simpa [SV.flat, SV.sz] using this
  | .arr n wd get, h => by
    have h1 : ∀ i, i < n → (get i).flat.length = wd := fun i hi => by
      have := h i hi
      rw [len_flat (get i) this.1, this.2.1]
    simpa [SV.flat, SV.sz] using len_flatMap_range (fun i => (get i).flat) wd n h1
  | .tup _, _ => rfl
  | .iface _ _, _ => rfl
  | .map _ _ _, _ => rfl
  | .val _, _ => rfl
  | .wsl _ _ _ _ _ _ _ _ _, _ => rfl
  | .mobj _ _, _ => rfl
theorem len_flatL : ∀ (l : List SV), SV.wfA l → (SV.flatL l).length = SV.sz.szL l
  | [], _ => rfl
  | v :: r, h => by
    simp only [SV.flatL, List.length_append, SV.sz.szL]
    rw [len_flat v h.1, len_flatL r h.2.2]
end

theorem beqN {a b : Nat} (h : Nat.beq a b = true) : a = b := Nat.eq_of_beq_eq_true h
theorem kindEq_true {k k' : IntKind} (h : kindEq k k' = true) : k = k' := by cases k <;> cases k' <;> simp_all [kindEq]

theorem iteL_true (c : Prop) [Decidable c] (hc : c) : ∀ (l m r : List SV), (∀ a ∈ l, ∀ b, SV.ite c a b = a) → SV.iteL c l m = some r → r = l
  | [], [], r, _, h => by simpa [SV.iteL] using h.symm
  | [], b :: m, r, _, h => by simp [SV.iteL] at h
  | a :: l, [], r, _, h => by simp [SV.iteL] at h
  | a :: l, b :: m, r, hl, h => by
    simp only [SV.iteL] at h
    split at h
    · rename_i x hx
      have := iteL_true c hc l m x (fun a ha => hl a (List.mem_cons_of_mem _ ha)) hx
      injection h with h
      subst h this
      rw [hl a (List.mem_cons_self ..) b]
    · cases h
theorem iteL_false (c : Prop) [Decidable c] (hc : ¬ c) : ∀ (l m r : List SV), (∀ a ∈ l, ∀ b, SV.ite c a b = b) → SV.iteL c l m = some r → r = m
  | [], [], r, _, h => by simpa [SV.iteL] using h.symm
  | [], b :: m, r, _, h => by simp [SV.iteL] at h
  | a :: l, [], r, _, h => by simp [SV.iteL] at h
  | a :: l, b :: m, r, hl, h => by
    simp only [SV.iteL] at h
    split at h
    · rename_i x hx
      have := iteL_false c hc l m x (fun a ha => hl a (List.mem_cons_of_mem _ ha)) hx
      injection h with h
      subst h this
      rw [hl a (List.mem_cons_self ..) b]
    · cases h

mutual
theorem ite_true (c : Prop) [Decidable c] (hc : c) : ∀ (a b : SV), SV.ite c a b = a
  | .agg l, b => by
    cases b with
    | agg m =>
      simp only [SV.ite]
      split
      · rename_i r hr
        rw [iteL_true c hc l m r (ite_trueL c hc l) hr]
      · simp [hc]
    | _ => simp [SV.ite, hc]
  | .int k x, b => by
    cases b with
    | int k' y =>
      simp only [SV.ite]
      split <;> simp [hc]
    | _ => simp [SV.ite, hc]
  | .bool x, b => by cases b <;> simp [SV.ite, hc]
  | .str x, b => by cases b <;> simp [SV.ite, hc]
  | .ptr _ _ _ _, b => by cases b <;> simp [SV.ite, hc]
  | .slice _ _ _ _ _ _ _ _ _, b => by cases b <;> simp [SV.ite, hc]
  | .fn _ _ _, b => by cases b <;> simp [SV.ite, hc]
  | .arr n wd f, b => by
    cases b with
    | arr n' wd' g =>
      simp only [SV.ite]
      split
      · rename_i h1 h2
        have h1 := beqN h1
        have h2 := beqN h2
        subst h1 h2
        congr 1
        funext k
        exact ite_true c hc (f k) (g k)
      · simp [hc]
    | _ => simp [SV.ite, hc]
  | .tup _, b => by cases b <;> simp [SV.ite, hc]
  | .iface _ _, b => by cases b <;> simp [SV.ite, hc]
  | .map _ _ _, b => by cases b <;> simp [SV.ite, hc]
  | .mobj _ _, b => by cases b <;> simp [SV.ite, hc]
  | .val _, b => by cases b <;> simp [SV.ite, hc]
  | .wsl _ _ _ _ _ _ _ _ _, b => by cases b <;> simp [SV.ite, hc]
theorem ite_trueL (c : Prop) [Decidable c] (hc : c) : ∀ (l : List SV), ∀ a ∈ l, ∀ b, SV.ite c a b = a
  | [], a, h, _ => by cases h
  | v :: r, a, h, b => by
    rcases List.mem_cons.1 h with h | h
    · rw [h]; exact ite_true c hc v b
    · exact ite_trueL c hc r a h b
end
mutual
theorem ite_false (c : Prop) [Decidable c] (hc : ¬ c) : ∀ (a b : SV), SV.ite c a b = b
  | .agg l, b => by
    cases b with
    | agg m =>
      simp only [SV.ite]
      split
      · rename_i r hr
        rw [iteL_false c hc l m r (ite_falseL c hc l) hr]
      · simp [hc]
    | _ => simp [SV.ite, hc]
  | .int k x, b => by
    cases b with
    | int k' y =>
      simp only [SV.ite]
      split
      · rename_i h; simp [hc, kindEq_true h]
      · simp [hc]
    | _ => simp [SV.ite, hc]
  | .bool x, b => by cases b <;> simp [SV.ite, hc]
  | .str x, b => by cases b <;> simp [SV.ite, hc]
  | .ptr _ _ _ _, b => by cases b <;> simp [SV.ite, hc]
  | .slice _ _ _ _ _ _ _ _ _, b => by cases b <;> simp [SV.ite, hc]
  | .fn _ _ _, b => by cases b <;> simp [SV.ite, hc]
  | .arr n wd f, b => by
    cases b with
    | arr n' wd' g =>
      simp only [SV.ite]
      split
      · rename_i h1 h2
        have h1 := beqN h1
        have h2 := beqN h2
        subst h1 h2
        congr 1
        funext k
        exact ite_false c hc (f k) (g k)
      · simp [hc]
    | _ => simp [SV.ite, hc]
  | .tup _, b => by cases b <;> simp [SV.ite, hc]
  | .iface _ _, b => by cases b <;> simp [SV.ite, hc]
  | .map _ _ _, b => by cases b <;> simp [SV.ite, hc]
  | .mobj _ _, b => by cases b <;> simp [SV.ite, hc]
  | .val _, b => by cases b <;> simp [SV.ite, hc]
  | .wsl _ _ _ _ _ _ _ _ _, b => by cases b <;> simp [SV.ite, hc]
theorem ite_falseL (c : Prop) [Decidable c] (hc : ¬ c) : ∀ (l : List SV), ∀ a ∈ l, ∀ b, SV.ite c a b = b
  | [], a, h, _ => by cases h
  | v :: r, a, h, b => by
    rcases List.mem_cons.1 h with h | h
    · rw [h]; exact ite_false c hc v b
    · exact ite_falseL c hc r a h b
end
theorem ite_eq (c : Prop) [Decidable c] (a b : SV) : SV.ite c a b = if c then a else b := by
  by_cases hc : c
  · rw [if_pos hc, ite_true c hc]
  · rw [if_neg hc, ite_false c hc]

theorem beqB_true {a b : Bool} (h : beqB a b = true) : a = b := by cases a <;> cases b <;> simp_all [beqB]
theorem allL_iff (ps : List Ob) (k : Prop) : allL ps k ↔ allTrue ps ∧ k := by
  induction ps with
  | nil => simp [allL, allTrue]
  | cons p r ih =>
    cases p with
    | c b => cases b <;> simp [allL, allTrue, ih]
    | p q => simp [allL, allTrue, ih, and_assoc]
theorem allP_to (G : Gd) (ps : List Ob) (k : Prop) (h : allP G ps k) : (gHolds G → allTrue ps) ∧ k := by
  induction ps with
  | nil => exact ⟨fun _ => trivial, h⟩
  | cons p r ih =>
    cases p with
    | c b =>
      cases b with
      | true => exact ⟨fun g => ⟨rfl, (ih h).1 g⟩, (ih h).2⟩
      | false => exact h.elim
    | p q =>
      cases G with
      | nil => exact ⟨fun g => ⟨h.1, (ih h.2).1 g⟩, (ih h.2).2⟩
      | cons x l => exact ⟨fun g => ⟨h.1 g, (ih h.2).1 g⟩, (ih h.2).2⟩
theorem gHolds_iff (s : Nat) (bb g : Bool) (r : Gd) : gHolds ((s, bb, g) :: r) ↔ g = bb ∧ gHolds r := by
  cases r <;> simp [gHolds]

/-! ### paths -/
/-- Where the k-th part of an aggregate lies. -/
theorem part_of : ∀ (l : List SV) (k : Nat) (v : SV), SV.wfA l → l[k]? = some v → szTo l k + v.sz ≤ SV.sz.szL l ∧ ∀ j, j < v.sz → (SV.flatL l)[szTo l k + j]? = v.flat[j]?
  | [], k, v, _, h => by simp at h
  | u :: r, 0, v, hw, h => by
    simp at h
    subst h
    refine ⟨by simp [szTo, SV.sz.szL], fun j hj => ?_⟩
    simp only [szTo, SV.flatL, Nat.zero_add]
    rw [List.getElem?_append_left (by rw [len_flat u hw.1]; exact hj)]
  | u :: r, k + 1, v, hw, h => by
    simp at h
    obtain ⟨h1, h2⟩ := part_of r k v hw.2.2 h
    refine ⟨by simp [szTo, SV.sz.szL]; omega, fun j hj => ?_⟩
    simp only [szTo, SV.flatL]
    rw [List.getElem?_append_right (by rw [len_flat u hw.1]; omega), len_flat u hw.1]
    rw [show u.sz + szTo r k + j - u.sz = szTo r k + j from by omega]
    exact h2 j hj
theorem part_set : ∀ (l : List SV) (k : Nat) (v x : SV), SV.wfA l → x.wf → x.nt = true → x.sz = v.sz → l[k]? = some v →
    SV.wfA (l.set k x) ∧ SV.sz.szL (l.set k x) = SV.sz.szL l ∧ ∀ j, (SV.flatL (l.set k x))[j]? = if szTo l k ≤ j ∧ j < szTo l k + v.sz then x.flat[j - szTo l k]? else (SV.flatL l)[j]?
  | [], k, v, _, _, _, _, _, h => by simp at h
  | u :: r, 0, v, x, hw, hx, hn, hs, h => by
    simp at h
    subst h
    refine ⟨⟨hx, hn, hw.2.2⟩, by simp [SV.sz.szL, hs], fun j => ?_⟩
    simp only [List.set, SV.flatL, szTo, Nat.zero_add, Nat.zero_le, true_and, Nat.sub_zero]
    by_cases hj : j < u.sz
    · rw [if_pos hj, List.getElem?_append_left (by rw [len_flat x hx]; omega)]
    · rw [if_neg hj, List.getElem?_append_right (by rw [len_flat x hx]; omega), List.getElem?_append_right (by rw [len_flat u hw.1]; omega), len_flat x hx, len_flat u hw.1, hs]
  | u :: r, k + 1, v, x, hw, hx, hn, hs, h => by
    simp at h
    obtain ⟨h1, h2, h3⟩ := part_set r k v x hw.2.2 hx hn hs h
    refine ⟨⟨hw.1, hw.2.1, h1⟩, by simp [SV.sz.szL, h2], fun j => ?_⟩
    have e : szTo (u :: r) (k + 1) = u.sz + szTo r k := rfl
    simp only [List.set, SV.flatL]
    by_cases hj : j < u.sz
    · rw [List.getElem?_append_left (by rw [len_flat u hw.1]; exact hj), List.getElem?_append_left (by rw [len_flat u hw.1]; exact hj), if_neg (by omega)]
    · rw [List.getElem?_append_right (by rw [len_flat u hw.1]; omega), List.getElem?_append_right (by rw [len_flat u hw.1]; omega), len_flat u hw.1, h3]
      by_cases hc : szTo r k ≤ j - u.sz ∧ j - u.sz < szTo r k + v.sz
      · rw [if_pos hc, if_pos (by omega), show j - u.sz - szTo r k = j - szTo (u :: r) (k + 1) from by omega]
      · rw [if_neg hc, if_neg (by omega)]

theorem nav_sound : ∀ (p : List PS) (v u : SV) (ps : List Ob), nav v p = some (ps, u) → allTrue ps → v.wf → u.wf ∧ pathOff p + u.sz ≤ v.sz ∧ ∀ k, k < u.sz → u.flat[k]? = v.flat[pathOff p + k]?
  | [], v, u, ps, h, _, hw => by
    have hv : nav v [] = some ([], v) := by cases v <;> first | rfl | exact hw.elim
    rw [hv] at h
    simp only [Option.some.injEq, Prod.mk.injEq] at h
    obtain ⟨_, rfl⟩ := h
    exact ⟨hw, by simp [pathOff], fun k _ => by simp [pathOff]⟩
  | .fld k o :: r, v, u, ps, h, hp, hw => by
    cases v with
    | agg l =>
      simp only [nav, nth_eq] at h
      split at h
      · rename_i x hx
        split at h
        · rename_i qs y hy
          simp only [Option.some.injEq, Prod.mk.injEq] at h
          obtain ⟨rfl, rfl⟩ := h
          obtain ⟨ho, hq⟩ := hp
          have ho := beqN ho
          have hxw : x.wf := ((wfA_iff l).1 hw x (List.mem_of_getElem? hx)).1
          obtain ⟨h1, h2, h3⟩ := nav_sound r x y qs hy hq hxw
          obtain ⟨p1, p2⟩ := part_of l k x hw hx
          refine ⟨h1, by simp only [pathOff, PS.off, SV.sz]; omega, fun j hj => ?_⟩
          rw [h3 j hj]
          simp only [SV.flat, pathOff, PS.off, ho]
          rw [← p2 (pathOff r + j) (by omega), Nat.add_assoc]
        · cases h
      · cases h
    | _ => simp [nav] at h
  | .elt i wd' :: r, v, u, ps, h, hp, hw => by
    cases v with
    | arr n wd get =>
      simp only [nav] at h
      split at h
      · rename_i qs y hy
        simp only [Option.some.injEq, Prod.mk.injEq] at h
        obtain ⟨rfl, rfl⟩ := h
        obtain ⟨hi, hwd, hq⟩ := hp
        have hwd := beqN hwd
        obtain ⟨w1, w2, _⟩ := hw i hi
        obtain ⟨h1, h2, h3⟩ := nav_sound r (get i) y qs hy hq w1
        have hle : (i + 1) * wd ≤ n * wd := Nat.mul_le_mul_right _ hi
        rw [Nat.succ_mul] at hle
        refine ⟨h1, by simp only [pathOff, PS.off, SV.sz, hwd]; omega, fun j hj => ?_⟩
        rw [h3 j hj]
        simp only [SV.flat, pathOff, PS.off, hwd]
        rw [Nat.add_assoc, get_flatMap_range (fun i => (get i).flat) wd n (fun i hi => by rw [len_flat _ (hw i hi).1, (hw i hi).2.1]) i _ hi (by omega)]
      · cases h
    | _ => simp [nav] at h

theorem setAt_sound : ∀ (p : List PS) (v u x : SV) (ps : List Ob), setAt v p u = some (ps, x) → allTrue ps → v.wf → u.wf → u.nt = true →
    x.wf ∧ x.nt = true ∧ x.sz = v.sz ∧ pathOff p + u.sz ≤ v.sz ∧ ∀ k, x.flat[k]? = if pathOff p ≤ k ∧ k < pathOff p + u.sz then u.flat[k - pathOff p]? else v.flat[k]?
  | [], v, u, x, ps, h, hp, hw, hu, hn => by
    simp only [setAt, Option.some.injEq, Prod.mk.injEq] at h
    obtain ⟨rfl, rfl⟩ := h
    have hs : u.sz = v.sz := beqN hp.1
    refine ⟨hu, hn, hs, by simp [pathOff, hs], fun k => ?_⟩
    simp only [pathOff, Nat.zero_add, Nat.zero_le, true_and, Nat.sub_zero]
    by_cases hk : k < u.sz
    · rw [if_pos hk]
    · rw [if_neg hk, List.getElem?_eq_none (by rw [len_flat u hu]; omega), List.getElem?_eq_none (by rw [len_flat v hw]; omega)]
  | .fld k o :: r, v, u, x, ps, h, hp, hw, hu, hn => by
    cases v with
    | agg l =>
      simp only [setAt, nth_eq] at h
      split at h
      · rename_i y hy
        split at h
        · rename_i qs z hz
          simp only [Option.some.injEq, Prod.mk.injEq] at h
          obtain ⟨rfl, rfl⟩ := h
          obtain ⟨ho, hq⟩ := hp
          have ho := beqN ho
          have hyw : y.wf := ((wfA_iff l).1 hw y (List.mem_of_getElem? hy)).1
          obtain ⟨h1, h1n, h2, h3, h4⟩ := setAt_sound r y u z qs hz hq hyw hu hn
          obtain ⟨s1, s2, s3⟩ := part_set l k y z hw h1 h1n h2 hy
          obtain ⟨p1, p2⟩ := part_of l k y hw hy
          refine ⟨by rw [setNth_eq]; exact s1, rfl, by simp only [SV.sz, setNth_eq, s2], by simp only [pathOff, PS.off, SV.sz]; omega, fun j => ?_⟩
          simp only [SV.flat, setNth_eq, s3, pathOff, PS.off, ho]
          by_cases hc : szTo l k ≤ j ∧ j < szTo l k + y.sz
          · rw [if_pos hc, h4]
            by_cases hd : pathOff r ≤ j - szTo l k ∧ j - szTo l k < pathOff r + u.sz
            · rw [if_pos hd, if_pos (by omega), show j - szTo l k - pathOff r = j - (szTo l k + pathOff r) from by omega]
            · rw [if_neg hd, if_neg (by omega), ← p2 (j - szTo l k) (by omega), show szTo l k + (j - szTo l k) = j from by omega]
          · rw [if_neg hc, if_neg (by omega)]
        · cases h
      · cases h
    | _ => simp [setAt] at h
  | .elt i wd' :: r, v, u, x, ps, h, hp, hw, hu, hn => by
    cases v with
    | arr n wd get =>
      simp only [setAt] at h
      split at h
      · rename_i qs z hz
        simp only [Option.some.injEq, Prod.mk.injEq] at h
        obtain ⟨rfl, rfl⟩ := h
        obtain ⟨hi, hwd, hq⟩ := hp
        have hwd := beqN hwd
        obtain ⟨w1, w2, _⟩ := hw i hi
        obtain ⟨h1, h1n, h2, h3, h4⟩ := setAt_sound r (get i) u z qs hz hq w1 hu hn
        have hle : (i + 1) * wd ≤ n * wd := Nat.mul_le_mul_right _ hi
        rw [Nat.succ_mul] at hle
        have hw' : ∀ j, j < n → (SV.ite (j = i) z (get j)).wf ∧ (SV.ite (j = i) z (get j)).sz = wd ∧ (SV.ite (j = i) z (get j)).nt = true := fun j hj => by
          rw [ite_eq]
          by_cases hji : j = i
          · rw [if_pos hji]; exact ⟨h1, by rw [h2, w2], h1n⟩
          · rw [if_neg hji]; exact hw j hj
        refine ⟨hw', rfl, rfl, by simp only [pathOff, PS.off, SV.sz, hwd]; omega, fun j => ?_⟩
        simp only [SV.flat, pathOff, PS.off, hwd]
        have l1 : ∀ k, k < n → ((SV.ite (k = i) z (get k)).flat).length = wd := fun k hk => by rw [len_flat _ (hw' k hk).1, (hw' k hk).2.1]
        have l2 : ∀ k, k < n → ((get k).flat).length = wd := fun k hk => by rw [len_flat _ (hw k hk).1, (hw k hk).2.1]
        by_cases hj : j < n * wd
        · have hpos : 0 < wd := by rcases Nat.eq_zero_or_pos wd with h0 | h0; (rw [h0] at hj; omega); exact h0
          have hdiv : j / wd < n := (Nat.div_lt_iff_lt_mul hpos).2 hj
          have hmod : j % wd < wd := Nat.mod_lt _ hpos
          have hjj : j = j / wd * wd + j % wd := by rw [Nat.mul_comm]; exact (Nat.div_add_mod j wd).symm
          generalize j / wd = a at *
          generalize j % wd = b at *
          subst hjj
          rw [get_flatMap_range (fun k => (SV.ite (k = i) z (get k)).flat) wd n l1 a b hdiv hmod, get_flatMap_range (fun k => (get k).flat) wd n l2 a b hdiv hmod]
          simp only [ite_eq]
          by_cases hai : a = i
          · subst hai
            rw [if_pos rfl, h4]
            by_cases hd : pathOff r ≤ b ∧ b < pathOff r + u.sz
            · rw [if_pos hd, if_pos (by omega), show a * wd + b - (a * wd + pathOff r) = b - pathOff r from by omega]
            · rw [if_neg hd, if_neg (by omega)]
          · rw [if_neg hai, if_neg]
            rintro ⟨g1, g2⟩
            apply hai
            rcases Nat.lt_trichotomy a i with hl | hl | hl
            · have : (a + 1) * wd ≤ i * wd := Nat.mul_le_mul_right _ hl
              rw [Nat.succ_mul] at this
              omega
            · exact hl
            · have : (i + 1) * wd ≤ a * wd := Nat.mul_le_mul_right _ hl
              rw [Nat.succ_mul] at this
              omega
        · rw [if_neg (by omega), List.getElem?_eq_none (by rw [len_flatMap_range _ wd n l1]; omega), List.getElem?_eq_none (by rw [len_flatMap_range _ wd n l2]; omega)]
      · cases h
    | _ => simp [setAt] at h
/-- What is found along a path is no map's content, nor is that where the path begins. -/
theorem nav_isM {v u : SV} {p : List PS} {ps : List Ob} (h : nav v p = some (ps, u)) : v.isM = false := by
  cases v <;> first | rfl | (simp [nav] at h)
theorem setAt_isM {v u x : SV} {p : List PS} {ps : List Ob} (h : setAt v p u = some (ps, x)) (hp : allTrue ps) (h0 : 0 < u.sz) : v.isM = false := by
  cases v <;> first | rfl | skip
  cases p with
  | nil =>
    simp only [setAt, Option.some.injEq, Prod.mk.injEq] at h
    obtain ⟨rfl, _⟩ := h
    have := beqN hp.1
    simp [SV.sz] at this
    omega
  | cons a r => cases a <;> simp [setAt] at h
end Eng
