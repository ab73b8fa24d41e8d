/-
  OWN WORK. THE ENGINE, part L: patterns for arguments; a pure contract out of a body's run.
-/
import Derived.Test.YtnibcchhhebfaaaGreatDoorEngK
namespace Eng
open Go
set_option linter.unusedVariables false
set_option linter.unusedSimpArgs false

section
variable {P : Program} {E : Env} {H : Hp} {C : Ctx} {w w' : World}

/-- Two symbolic values that stand for one. -/
structure Same (u v : SV) : Prop where
  den : u.den = v.den
  flat : u.flat = v.flat
  wf : u.wf
  nt : u.nt = v.nt

/-- Where a pattern's entry comes from: M: (own tag, the caller's) of what is owned, R: the caller's tags of what is read. -/
def Src (H : Hp) (M : List (Nat × Nat)) (R : List Nat) (e : Ent) : Prop :=
  (e.own = true ∧ ∃ g en, (e.g, g) ∈ M ∧ H.find g = some en ∧ (en.wr = true ∧ e.fam = none) ∧ e.b = en.b ∧ e.z = en.z ∧ ∀ C w, EntOk C w en → EntOk C w e) ∨
  (e.own = false ∧ ((∃ g en, g ∈ R ∧ H.find g = some en ∧ ∀ C w, EntOk C w en.ro → EntOk C w e) ∨ ∀ C w, EntOk C w e))
theorem Src.mono {H : Hp} {M M' : List (Nat × Nat)} {R R' : List Nat} {e : Ent} (h : Src H M R e) (h1 : ∀ p ∈ M, p ∈ M') (h2 : ∀ g ∈ R, g ∈ R') : Src H M' R' e := by
  rcases h with ⟨a, g, en, b, c⟩ | ⟨a, ⟨g, en, b, c⟩ | d⟩
  · exact .inl ⟨a, g, en, h1 _ b, c⟩
  · exact .inr ⟨a, .inl ⟨g, en, h2 g b, c⟩⟩
  · exact .inr ⟨a, .inr d⟩

/-- The tags of a view: all different, from t on, so many. -/
def TagsIn (t k : Nat) (D : Hp) : Prop := (D.Pairwise fun e e' => e.g ≠ e'.g) ∧ ∀ e ∈ D, t ≤ e.g ∧ e.g < t + k
theorem TagsIn.nil (t k : Nat) : TagsIn t k [] := ⟨List.Pairwise.nil, fun _ h => by cases h⟩
theorem TagsIn.one {t : Nat} {e : Ent} (h : e.g = t) : TagsIn t 1 [e] := ⟨List.pairwise_singleton _ _, fun x hx => by rw [List.mem_singleton.1 hx, h]; omega⟩
theorem TagsIn.app {t k l : Nat} {D F : Hp} (h : TagsIn t k D) (h' : TagsIn (t + k) l F) : TagsIn t (k + l) (D ++ F) := by
  refine ⟨List.pairwise_append.2 ⟨h.1, h'.1, fun e he e' he' => ?_⟩, fun e he => ?_⟩
  · have := h.2 e he; have := h'.2 e' he'; omega
  · rcases List.mem_append.1 he with he | he
    · have := h.2 e he; omega
    · have := h'.2 e he; omega
theorem TagsIn.cons {t k : Nat} {e : Ent} {F : Hp} (h : e.g = t) (h' : TagsIn (t + 1) k F) : TagsIn t (1 + k) (e :: F) := TagsIn.app (TagsIn.one h) h'

/-- A pattern for one argument: the data x; with tags from t on: the symbolic value, the entries; 'om': (tag, the caller's tag) of what is owned, 'rt': the caller's tags of what is read. -/
structure Arg (α : Type) where
  get : SV → Hp → Option (List Ob × α)
  sv : Nat → α → SV
  hp : Nat → α → Hp
  om : Nat → SV → Hp → List (Nat × Nat)
  /-- Names of what is only read. -/
  rm : Nat → SV → Hp → List (Nat × Nat) := fun _ _ _ => []
  rt : SV → Hp → List Nat
  tags : Nat
  tg : ∀ t x, TagsIn t tags (hp t x)
  ok : ∀ v H ps x, get v H = some (ps, x) → allTrue ps → v.wf → (∃ C w, Sat C H w) → ∀ t, Same (sv t x) v ∧ ∀ e ∈ hp t x, Src H (om t v H) (rt v H) e
structure ArgL (α : Type) where
  get : List SV → Hp → Option (List Ob × α)
  svs : Nat → α → List SV
  hp : Nat → α → Hp
  om : Nat → List SV → Hp → List (Nat × Nat)
  rm : Nat → List SV → Hp → List (Nat × Nat) := fun _ _ _ => []
  rt : List SV → Hp → List Nat
  tags : Nat
  tg : ∀ t x, TagsIn t tags (hp t x)
  ok : ∀ vs H ps x, get vs H = some (ps, x) → allTrue ps → (∀ v ∈ vs, v.wf) → (∃ C w, Sat C H w) → ∀ t, SV.denL (svs t x) = SV.denL vs ∧ SV.flatL (svs t x) = SV.flatL vs ∧ (SV.wfA vs → SV.wfA (svs t x)) ∧ (∀ v ∈ svs t x, v.wf) ∧ ∀ e ∈ hp t x, Src H (om t vs H) (rt vs H) e
def ArgL.nil : ArgL Unit where
  get := fun l _ => match l with | [] => some ([], ()) | _ => none
  svs := fun _ _ => []
  hp := fun _ _ => []
  om := fun _ _ _ => []
  rt := fun _ _ => []
  tags := 0
  tg := fun t _ => .nil t 0
  ok := by
    intro vs H ps x h hp hw _ t
    cases vs with
    | nil => exact ⟨rfl, rfl, fun h => h, fun _ h => (by cases h), fun _ h => (by cases h)⟩
    | cons v r => simp at h
def ArgL.cons {α β : Type} (a : Arg α) (r : ArgL β) : ArgL (α × β) where
  get := fun l H => match l with
    | v :: vs => match a.get v H with
      | some (ps, x) => match r.get vs H with
        | some (qs, y) => some (ps ++ qs, (x, y))
        | none => none
      | none => none
    | [] => none
  svs := fun t x => a.sv t x.1 :: r.svs (t + a.tags) x.2
  hp := fun t x => a.hp t x.1 ++ r.hp (t + a.tags) x.2
  om := fun t l H => match l with
    | v :: vs => a.om t v H ++ r.om (t + a.tags) vs H
    | [] => []
  rm := fun t l H => match l with
    | v :: vs => a.rm t v H ++ r.rm (t + a.tags) vs H
    | [] => []
  rt := fun l H => match l with
    | v :: vs => a.rt v H ++ r.rt vs H
    | [] => []
  tags := a.tags + r.tags
  tg := fun t x => (a.tg t x.1).app (r.tg (t + a.tags) x.2)
  ok := by
    intro vs H ps x h hp hw hex t
    cases vs with
    | nil => simp at h
    | cons v vs =>
      dsimp only at h
      split at h
      · rename_i ps1 x1 h1
        split at h
        · rename_i qs y h2
          simp only [Option.some.injEq, Prod.mk.injEq] at h
          obtain ⟨rfl, rfl⟩ := h
          obtain ⟨p1, p2⟩ := allTrue_append hp
          obtain ⟨s1, e1⟩ := a.ok v H ps1 x1 h1 p1 (hw v (List.mem_cons_self ..)) hex t
          obtain ⟨d2, f2, w2, g2, e2⟩ := r.ok vs H qs y h2 p2 (fun v hv => hw v (List.mem_cons_of_mem _ hv)) hex (t + a.tags)
          refine ⟨by simp only [SV.denL, s1.den, d2], by simp only [SV.flatL, s1.flat, f2], fun hA => ⟨s1.wf, by rw [s1.nt]; exact hA.2.1, w2 hA.2.2⟩, fun u hu => ?_, fun e he => ?_⟩
          · rcases List.mem_cons.1 hu with hu | hu
            · rw [hu]; exact s1.wf
            · exact g2 u hu
          · rcases List.mem_append.1 he with he | he
            · exact (e1 e he).mono (fun g h => List.mem_append_left _ h) (fun g h => List.mem_append_left _ h)
            · exact (e2 e he).mono (fun g h => List.mem_append_right _ h) (fun g h => List.mem_append_right _ h)
        · cases h
      · cases h

/-- What an element may be. -/
structure Elt (β : Type) where
  wd : Nat
  get : SV → Option β
  mkv : β → SV
  dflt : β
  ok : ∀ v x, get v = some x → SVeq v (mkv x) ∧ v.nt = true
  wf : ∀ x, (mkv x).nt = true ∧ (mkv x).sz = wd
def Elt.int (k : IntKind) : Elt Int where
  wd := 1
  get := fun v => match v with
    | .int k' x => match kindEq k k' with
      | true => some x
      | false => none
    | _ => none
  mkv := fun x => .int k x
  dflt := 0
  ok := by
    intro v x h
    cases v <;> simp at h
    split at h
    · rename_i hk
      injection h with h
      rw [h, kindEq_true hk]
      exact ⟨SVeq.of_eq rfl, rfl⟩
    · cases h
  wf := fun x => ⟨rfl, rfl⟩
def Elt.bool : Elt Bool where
  wd := 1
  get := fun v => match v with
    | .bool x => some x
    | _ => none
  mkv := fun x => .bool x
  dflt := false
  ok := by
    intro v x h
    cases v <;> simp at h
    rw [h]
    exact ⟨SVeq.of_eq rfl, rfl⟩
  wf := fun x => ⟨rfl, rfl⟩
def Elt.str : Elt (List UInt8) where
  wd := 1
  get := fun v => match v with
    | .str x => some x
    | _ => none
  mkv := fun x => .str x
  dflt := []
  ok := by
    intro v x h
    cases v <;> simp at h
    rw [h]
    exact ⟨SVeq.of_eq rfl, rfl⟩
  wf := fun x => ⟨rfl, rfl⟩
/-- Are the parts below n integers of this kind? -/
def allK (k : IntKind) (g : Nat → SV) : Nat → Bool
  | 0 => true
  | n + 1 => match g n with
    | .int k' _ => (match kindEq k' k with
      | true => allK k g n
      | false => false)
    | _ => false
theorem allK_at {k : IntKind} {g : Nat → SV} : ∀ {n : Nat}, allK k g n = true → ∀ j, j < n → g j = .int k (intOf (g j))
  | 0, _, j, hj => absurd hj (Nat.not_lt_zero j)
  | n + 1, h, j, hj => by
    simp only [allK] at h
    split at h
    · rename_i k' x hg
      split at h
      · rename_i hk
        by_cases e : j = n
        · subst e
          rw [hg, kindEq_true hk]
          rfl
        · exact allK_at h j (by omega)
      · cases h
    · cases h
/-- An array of integers. -/
def Elt.arr (n : Nat) (k : IntKind) : Elt (Nat → Int) where
  wd := n
  get := fun v => match v with
    | .arr m wd g => match Nat.beq m n, Nat.beq wd 1, allK k g n with
      | true, true, true => some fun j => intOf (g j)
      | _, _, _ => none
    | _ => none
  mkv := fun f => .arr n 1 fun j => .int k (f j)
  dflt := fun _ => 0
  ok := by
    intro v x h
    cases v <;> simp at h
    rename_i m wd g
    split at h
    · rename_i h1 h2 h3
      injection h with h
      subst h
      have e1 := beqN h1
      have e2 := beqN h2
      subst e1 e2
      have hc : (List.range m).flatMap (fun i => (g i).flat) = (List.range m).flatMap (fun i => (SV.int k (intOf (g i))).flat) := by
        have : (List.range m).map (fun i => (g i).flat) = (List.range m).map (fun i => (SV.int k (intOf (g i))).flat) := List.map_congr_left fun j hj => by
          rw [← allK_at h3 j (List.mem_range.1 hj)]
        rw [List.flatMap_def, List.flatMap_def, this]
      exact ⟨⟨by simp only [SV.den, hc], by simp only [SV.flat, hc], rfl, fun _ i hi => ⟨trivial, rfl, rfl⟩⟩, rfl⟩
    · cases h
  wf := fun x => ⟨rfl, Nat.mul_one n⟩
/-- The parts of a struct of such elements. -/
structure EltL (β : Type) where
  wd : Nat
  get : List SV → Option β
  mkv : β → List SV
  dflt : β
  ok : ∀ v x, get v = some x → SV.flatL v = SV.flatL (mkv x) ∧ SV.sz.szL v = SV.sz.szL (mkv x) ∧ (SV.wfA v → SV.wfA (mkv x))
  wf : ∀ x, SV.sz.szL (mkv x) = wd
def EltL.nil : EltL Unit where
  wd := 0
  get := fun l => match l with | [] => some () | _ => none
  mkv := fun _ => []
  dflt := ()
  ok := by intro v x h; cases v <;> simp at h; exact ⟨rfl, rfl, fun h => h⟩
  wf := fun _ => rfl
def EltL.cons {α β : Type} (a : Elt α) (r : EltL β) : EltL (α × β) where
  wd := a.wd + r.wd
  get := fun l => match l with
    | v :: vs => match a.get v with
      | some x => match r.get vs with
        | some y => some (x, y)
        | none => none
      | none => none
    | [] => none
  mkv := fun x => a.mkv x.1 :: r.mkv x.2
  dflt := (a.dflt, r.dflt)
  ok := by
    intro v x h
    cases v with
    | nil => simp at h
    | cons v vs =>
      dsimp only at h
      split at h
      · rename_i x1 h1
        split at h
        · rename_i y h2
          injection h with h
          subst h
          obtain ⟨e1, n1⟩ := a.ok v x1 h1
          obtain ⟨f2, s2, w2⟩ := r.ok vs y h2
          exact ⟨by simp only [SV.flatL, e1.flat, f2], by simp only [SV.sz.szL, e1.sz, s2], fun hw => ⟨e1.wf hw.1, (a.wf x1).1, w2 hw.2.2⟩⟩
        · cases h
      · cases h
  wf := fun x => by simp only [SV.sz.szL, (a.wf x.1).2, r.wf x.2]
def Elt.agg {β : Type} (r : EltL β) : Elt β where
  wd := r.wd
  get := fun v => match v with
    | .agg l => r.get l
    | _ => none
  mkv := fun x => .agg (r.mkv x)
  dflt := r.dflt
  ok := by
    intro v x h
    cases v <;> simp at h
    obtain ⟨f2, s2, w2⟩ := r.ok _ x h
    exact ⟨⟨by simp only [SV.den, f2], by simp only [SV.flat, f2], s2, w2⟩, rfl⟩
  wf := fun x => ⟨rfl, r.wf x⟩

def Arg.elt {β : Type} (a : Elt β) : Arg β where
  get := fun v _ => match a.get v with
    | some x => some ([], x)
    | none => none
  sv := fun _ x => a.mkv x
  hp := fun _ _ => []
  om := fun _ _ _ => []
  rt := fun _ _ => []
  tags := 0
  tg := fun t _ => .nil t 0
  ok := by
    intro v H ps x h hp hw _ t
    split at h
    · rename_i y hy
      simp only [Option.some.injEq, Prod.mk.injEq] at h
      obtain ⟨_, rfl⟩ := h
      obtain ⟨e, hn⟩ := a.ok v y hy
      exact ⟨⟨e.den.symm, e.flat.symm, e.wf hw, (a.wf y).1.trans hn.symm⟩, fun _ h => by cases h⟩
    · cases h
def Arg.agg {α : Type} (r : ArgL α) : Arg α where
  get := fun v H => match v with
    | .agg l => match r.get l H with
      | some (ps, x) => some (ps, x)
      | none => none
    | _ => none
  sv := fun t x => .agg (r.svs t x)
  hp := r.hp
  om := fun t v H => match v with
    | .agg l => r.om t l H
    | _ => []
  rm := fun t v H => match v with
    | .agg l => r.rm t l H
    | _ => []
  rt := fun v H => match v with
    | .agg l => r.rt l H
    | _ => []
  tags := r.tags
  tg := r.tg
  ok := by
    intro v H ps x h hp hw hex t
    cases v <;> simp at h
    rename_i l
    cases hr : r.get l H with
    | none => simp [hr] at h
    | some q =>
      obtain ⟨qs, y⟩ := q
      simp only [hr, Option.some.injEq, Prod.mk.injEq] at h
      obtain ⟨rfl, rfl⟩ := h
      have hwl : SV.wfA l := hw
      obtain ⟨d, f, g, _, e⟩ := r.ok l H qs y hr hp (fun v hv => ((wfA_iff l).1 hwl v hv).1) hex t
      exact ⟨⟨by simp only [SV.den, f], by simp only [SV.flat, f], g hwl, rfl⟩, e⟩

/-- What is known of a slice that is read. -/
structure RowD (β : Type) where
  b : Nat
  off : Nat
  n : Nat
  c : Nat
  z : Bool
  f : Nat → β
/-- All of the first n elements are of the form that is wanted. -/
def allGet {β : Type} (a : Elt β) (get : Nat → SV) (n : Nat) : Prop := ∀ k, k < n → (a.get (get k)).isSome = true
/-- What an entry's elements are. -/
def RowFacts (w : World) (e : Ent) : Prop := (e.z = true → e.n = 0 ∧ e.cap = 0) ∧ ∀ i, i < e.n → (e.get i).wfF ∧ ntF e.fam (e.get i) ∧ match e.fam with
    | none => (e.get i).sz = e.wd ∧ Holds w e.b (e.off + i * e.wd) (e.get i)
    | some f => Holds w (f i).1 (f i).2 (e.get i)
theorem EntOk.facts {e : Ent} (h : EntOk C w e) : RowFacts w e := ⟨h.z, h.row⟩
theorem EntOk.facts_ro {e : Ent} (h : EntOk C w e.ro) : RowFacts w e := by
  cases e
  exact ⟨h.z, h.row⟩
theorem RowFacts.nz {e : Ent} (h : RowFacts w e) {i : Nat} (hi : i < e.n) : e.z = false := by
  cases hz : e.z with
  | false => rfl
  | true => have := (h.1 hz).1; omega
/-- A reference into an entry. -/
theorem loc_facts {e : Ent} {b off i wd : Nat} {r : List Ob} (h : allTrue (locOb e b off i wd (idxOb e i :: r))) (hO : RowFacts w e) :
    (e.get i).wfF ∧ Holds w b (off + i * wd) (e.get i) ∧ allTrue r ∧ ((e.get i).sz ≠ 0 → e.blk b) ∧ i < e.n := by
  unfold locOb at h
  split at h
  · rename_i hf
    obtain ⟨h1, h2, h3⟩ := h
    obtain ⟨h3, h4⟩ := idx_sound h3
    have h2 := beqN h2
    obtain ⟨r1, _, r2⟩ := hO.2 i h3
    rw [hf] at r2
    exact ⟨r1, by rw [← h1.1, ← h1.2, ← h2]; exact r2.2, h4, fun _ => (blk_none hf).2 h1.1.symm, h3⟩
  · rename_i f hf
    obtain ⟨h1, h2, h3⟩ := h
    obtain ⟨h3, h4⟩ := idx_sound h3
    have h2 := beqN h2
    obtain ⟨r1, _, r2⟩ := hO.2 i h3
    rw [hf] at r2
    have h1 : f i = (b, off) := h1
    dsimp only at r2
    rw [h1] at r2
    exact ⟨r1, by rw [h2, Nat.mul_zero, Nat.add_zero]; exact r2, h4, fun hs => by unfold Ent.blk; rw [hf]; exact ⟨i, h3, .inl hs, by rw [h1]⟩, h3⟩
theorem row_facts {g b off : Nat} {p : List PS} {wd : Nat} {z : Bool} {ps : List Ob} {M : Nat} {get : Nat → SV} (h : rowOf H g b off p wd z = some (ps, M, get)) (hp : allTrue ps) :
    (∃ en, H.find g = some en ∧ ∀ w, RowFacts w en → (0 < M → en.z = false ∧ (0 < wd → en.blk b)) ∧ ∀ k, k < M → (get k).wf ∧ (get k).nt = true ∧ (get k).sz = wd ∧ Holds w b (off + (pathOff p + k * wd)) (get k)) ∨ z = true := by
  unfold rowOf at h
  split at h
  · rename_i e he
    refine .inl ⟨e, he, fun w hent => ?_⟩
    split at h
    · split at h
      case h_2 => cases h
      rename_i hf
      simp only [Option.some.injEq, Prod.mk.injEq] at h
      obtain ⟨rfl, rfl, rfl⟩ := h
      obtain ⟨p1, p3, _⟩ := hp
      have p3 := beqN p3
      refine ⟨fun h0 => ⟨hent.nz h0, fun _ => (blk_none hf).2 p1.1.symm⟩, fun k hk => ?_⟩
      obtain ⟨r1, rn, r2⟩ := hent.2 k hk
      rw [hf] at r2 rn
      refine ⟨wfF_wf r1 (isM_nt rn), rn, by rw [r2.1, p3], ?_⟩
      have := r2.2
      rw [p1.1, p1.2, p3] at this
      simpa [pathOff] using this
    · rename_i i0 wd0 r
      split at h
      · rename_i qs n wd' get' hn
        simp only [Option.some.injEq, Prod.mk.injEq] at h
        obtain ⟨rfl, rfl, rfl⟩ := h
        obtain ⟨r1', r3, ⟨p5, p7⟩, pb, pi⟩ := loc_facts hp hent
        have r1 := wfF_wf r1' (nav_isM hn)
        have p5 := beqN p5
        subst p5
        obtain ⟨n1, n2, n3⟩ := nav_sound r _ _ qs hn p7 r1
        have hh := r3.sub n2 n3
        refine ⟨fun h0 => ⟨hent.nz pi, fun hw0 => pb (by
          have : 0 < n * wd' := Nat.mul_pos h0 hw0
          simp only [SV.sz] at n2
          omega)⟩, fun k hk => ?_⟩
        obtain ⟨w1, w2, w3⟩ := n1 k hk
        refine ⟨w1, w3, w2, fun j hj => ?_⟩
        have hle : (k + 1) * wd' ≤ n * wd' := Nat.mul_le_mul_right _ hk
        rw [Nat.succ_mul] at hle
        have := hh (k * wd' + j) (by simp only [SV.sz]; omega)
        rw [SV.flat, get_flatMap_range (fun k => (get' k).flat) wd' n (fun i hi => by rw [len_flat _ (n1 i hi).1, (n1 i hi).2.1]) k j hk (by omega)] at this
        rw [← this]
        simp only [pathOff, PS.off]
        congr 2
        omega
      · cases h
    · cases h
  · simp only [Option.some.injEq, Prod.mk.injEq] at h
    obtain ⟨rfl, rfl, rfl⟩ := h
    exact .inr hp.1
/-- An element that has the form that is wanted. -/
theorem elt_facts {β : Type} {a : Elt β} {v : SV} {w : World} {b off : Nat} (h : (a.get v).isSome = true) (hw : v.wf) (hs : v.sz = a.wd) (hh : Holds w b off v) :
    (a.mkv ((a.get v).getD a.dflt)).wf ∧ (a.mkv ((a.get v).getD a.dflt)).nt = true ∧ (a.mkv ((a.get v).getD a.dflt)).sz = a.wd ∧ Holds w b off (a.mkv ((a.get v).getD a.dflt)) := by
  cases hg : a.get v with
  | none => rw [hg] at h; cases h
  | some y =>
    obtain ⟨e, _⟩ := a.ok _ _ hg
    exact ⟨e.wf hw, (a.wf y).1, (a.wf y).2, fun k hk => by
      have := hh k (by rw [e.sz]; exact hk)
      rw [this, e.flat]; rfl⟩
def Arg.row {β : Type} (a : Elt β) : Arg (RowD β) where
  get := fun v H => match v with
    | .slice g b off p wd i n c z => match Nat.beq g 999999 with
     | true => some ([.p (z = true)], ⟨0, 0, n, c, z, fun _ => a.dflt⟩)
     | false => match rowOf H g b off p wd z with
      | some (ps, m, get) => some (.c (Nat.beq wd a.wd) :: .c (Nat.blt 0 a.wd) :: .p (sh i n ≤ m) :: .p (allGet a (fun k => get (sh i k)) n) :: ps, ⟨b, off + (pathOff p + i * wd), n, c, z, fun k => (a.get (get (sh i k))).getD a.dflt⟩)
      | none => none
    | _ => none
  sv := fun t x => .slice t x.b x.off [] a.wd 0 x.n x.c x.z
  hp := fun t x => [⟨t, x.b, x.off, a.wd, x.n, fun k => a.mkv (x.f k), false, false, 0, 0, Nat.beq x.n 0, none⟩]
  om := fun _ _ _ => []
  rm := fun t v H => match v with
    | .slice g _ _ _ _ _ _ _ _ => [(t, g)]
    | _ => []
  rt := fun v H => match v with
    | .slice g _ _ _ _ _ _ _ _ => [g]
    | _ => []
  tags := 1
  tg := fun t x => .one rfl
  ok := by
    intro v H ps x h hp hw _ t
    cases v with
    | slice g b off p wd i n c z =>
      dsimp only at h
      split at h
      · simp only [Option.some.injEq, Prod.mk.injEq] at h
        obtain ⟨rfl, rfl⟩ := h
        have hz : z = true := hp.1
        obtain ⟨hn, hcc⟩ := hw.1 hz
        subst hz hn hcc
        refine ⟨⟨by simp [SV.den], by simp [SV.flat], hw, rfl⟩, fun e he => .inr ?_⟩
        simp only [List.mem_singleton] at he
        subst he
        exact ⟨rfl, .inr fun C w => ⟨(fun q => by cases q), (fun _ q => by simp at q), (fun _ => ⟨rfl, rfl⟩), (fun q => by cases q), (fun f q => by cases q), (fun f q => by cases q), (fun k hk => absurd hk (Nat.not_lt_zero _))⟩⟩
      split at h
      · rename_i qs m get hel
        simp only [Option.some.injEq, Prod.mk.injEq] at h
        obtain ⟨rfl, rfl⟩ := h
        obtain ⟨p1, pw, p2, p3, p4⟩ := hp
        have p1 := beqN p1
        subst p1
        have pw : 0 < a.wd := by simpa [Nat.blt_eq] using pw
        have p2 : sh i n ≤ m := p2
        have p3 : allGet a (fun k => get (sh i k)) n := p3
        rw [sh_eq] at p2
        refine ⟨⟨by simp [SV.den, pathOff], by simp [SV.flat, pathOff], hw, rfl⟩, fun e he => .inr ?_⟩
        simp only [List.mem_singleton] at he
        subst he
        refine ⟨rfl, ?_⟩
        by_cases h0 : n = 0
        · refine .inr fun C w => ?_
          subst h0
          exact ⟨(fun q => by cases q), (fun _ q => by simp at q), (fun _ => ⟨rfl, rfl⟩), (fun q => by cases q), (fun f q => by cases q), (fun f q => by cases q), (fun k hk => absurd hk (Nat.not_lt_zero _))⟩
        · rcases row_facts hel p4 with ⟨en, hen, hsrc⟩ | hz
          · refine .inl ⟨g, en, List.mem_singleton.2 rfl, hen, fun C w hO => ?_⟩
            obtain ⟨s1, s2⟩ := hsrc w hO.facts_ro
            obtain ⟨s0, s1⟩ := s1 (by omega)
            have hold := hO.old s0 rfl b (s1 pw)
            have hzz : Nat.beq n 0 = false := by
              cases hb : Nat.beq n 0 with
              | false => rfl
              | true => exact absurd (beqN hb) h0
            refine ⟨(fun q => by cases q), fun _ _ _ => hold, (fun q => by dsimp only at q; rw [hzz] at q; cases q), (fun q => by cases q), (fun f q => by cases q), (fun f q => by cases q), fun k hk => ?_⟩
            have hk : k < n := hk
            obtain ⟨q1, q2, q3, q4⟩ := s2 (sh i k) (by rw [sh_eq]; omega)
            suffices hh : _ from (fun t => ⟨.inl t.1, t.2⟩) (elt_facts (p3 k hk) q1 q3 hh)
            dsimp only
            rw [show off + (pathOff p + i * a.wd) + k * a.wd = off + (pathOff p + (sh i k) * a.wd) from by rw [sh_eq, Nat.add_mul]; omega]
            exact q4
          · exact absurd (hw.1 hz).1 h0
      · cases h
    | _ => simp at h

/-! ### rows whose elements lead to rows -/
/-- An element that may lead to memory: one entry for all elements' rows of one place. -/
structure EltF (β : Type) where
  wd : Nat
  tags : Nat
  get : SV → Hp → Option (List Ob × β)
  mkv : Nat → Nat → β → SV
  dflt : β
  fams : Nat → Nat → (Nat → β) → Hp
  gs : SV → List Nat
  tg : ∀ t n x, TagsIn t tags (fams t n x)
  ro : ∀ t n x, ∀ e ∈ fams t n x, e.own = false
  ok : ∀ v H ps x, get v H = some (ps, x) → allTrue ps → v.wf → ∀ t i, Same (mkv t i x) v
  okF : ∀ (vs : Nat → SV) (n : Nat) (H : Hp) (xs : Nat → β) (R : List Nat), (∀ i, i < n → ∃ ps, get (vs i) H = some (ps, xs i) ∧ allTrue ps ∧ (vs i).wf ∧ gs (vs i) = R) → ∀ t, ∀ e ∈ fams t n xs, Src H [] R e
structure EltFL (β : Type) where
  wd : Nat
  tags : Nat
  get : List SV → Hp → Option (List Ob × β)
  mkv : Nat → Nat → β → List SV
  dflt : β
  fams : Nat → Nat → (Nat → β) → Hp
  gs : List SV → List Nat
  tg : ∀ t n x, TagsIn t tags (fams t n x)
  ro : ∀ t n x, ∀ e ∈ fams t n x, e.own = false
  ok : ∀ vs H ps x, get vs H = some (ps, x) → allTrue ps → SV.wfA vs → ∀ t i, SV.flatL (mkv t i x) = SV.flatL vs ∧ SV.wfA (mkv t i x)
  okF : ∀ (vs : Nat → List SV) (n : Nat) (H : Hp) (xs : Nat → β) (R : List Nat), (∀ i, i < n → ∃ ps, get (vs i) H = some (ps, xs i) ∧ allTrue ps ∧ SV.wfA (vs i) ∧ gs (vs i) = R) → ∀ t, ∀ e ∈ fams t n xs, Src H [] R e
/-- An element without memory. -/
def EltF.elt {β : Type} (a : Elt β) : EltF β where
  wd := a.wd
  tags := 0
  get := fun v _ => match a.get v with
    | some x => some ([], x)
    | none => none
  mkv := fun _ _ x => a.mkv x
  dflt := a.dflt
  fams := fun _ _ _ => []
  gs := fun _ => []
  tg := fun t _ _ => .nil t 0
  ro := fun _ _ _ _ h => by cases h
  ok := by
    intro v H ps x h hp hw t i
    split at h
    · rename_i y hy
      simp only [Option.some.injEq, Prod.mk.injEq] at h
      obtain ⟨_, rfl⟩ := h
      obtain ⟨e, hn⟩ := a.ok v y hy
      exact ⟨e.den.symm, e.flat.symm, e.wf hw, (a.wf y).1.trans hn.symm⟩
    · cases h
  okF := fun _ _ _ _ _ _ _ _ h => by cases h
/-- What is known of one element's row. -/
def famRow {β : Type} (a : Elt β) (v : SV) (H : Hp) : Option (List Ob × RowD β) := match v with
  | .slice g b off p wd i n c z => match Nat.beq g 999999 with
    | true => some ([.p (z = true)], ⟨0, 0, n, c, z, fun _ => a.dflt⟩)
    | false => match rowOf H g b off p wd z with
      | some (ps, m, get) => some (.c (Nat.beq wd a.wd) :: .c (Nat.blt 0 a.wd) :: .p (sh i n ≤ m) :: .p (allGet a (fun k => get (sh i k)) n) :: ps, ⟨b, off + (pathOff p + i * wd), n, c, z, fun k => (a.get (get (sh i k))).getD a.dflt⟩)
      | none => none
  | _ => none
def tagOf : SV → List Nat
  | .slice g _ _ _ _ _ _ _ _ => [g]
  | _ => []
theorem famRow_facts {β : Type} {a : Elt β} {v : SV} {ps : List Ob} {x : RowD β} {g : Nat} (h : famRow a v H = some (ps, x)) (hp : allTrue ps) (hw : v.wf) (hg : tagOf v = [g]) :
    x.n = 0 ∨ ∃ en, H.find g = some en ∧ ∀ w, RowFacts w en → en.z = false ∧ en.blk x.b ∧ ∀ k, k < x.n → (a.mkv (x.f k)).wf ∧ (a.mkv (x.f k)).nt = true ∧ (a.mkv (x.f k)).sz = a.wd ∧ Holds w x.b (x.off + k * a.wd) (a.mkv (x.f k)) := by
  cases v with
  | slice g' b off p wd i n c z =>
    have hg : g' = g := by simpa [tagOf] using hg
    subst hg
    unfold famRow at h
    dsimp only at h
    split at h
    · simp only [Option.some.injEq, Prod.mk.injEq] at h
      obtain ⟨rfl, rfl⟩ := h
      exact .inl (hw.1 hp.1).1
    split at h
    · rename_i qs m get hel
      simp only [Option.some.injEq, Prod.mk.injEq] at h
      obtain ⟨rfl, rfl⟩ := h
      obtain ⟨p1, pw, p2, p3, p4⟩ := hp
      have p1 := beqN p1
      subst p1
      have pw : 0 < a.wd := by simpa [Nat.blt_eq] using pw
      have p2 : sh i n ≤ m := p2
      have p3 : allGet a (fun k => get (sh i k)) n := p3
      rw [sh_eq] at p2
      by_cases h0 : n = 0
      · exact .inl h0
      · rcases row_facts hel p4 with ⟨en, hen, hsrc⟩ | hz
        · refine .inr ⟨en, hen, fun w hO => ?_⟩
          obtain ⟨s1, s2⟩ := hsrc w hO
          obtain ⟨s0, s1⟩ := s1 (by omega)
          refine ⟨s0, s1 pw, fun k hk => ?_⟩
          have hk : k < n := hk
          obtain ⟨q1, q2, q3, q4⟩ := s2 (sh i k) (by rw [sh_eq]; omega)
          refine elt_facts (p3 k hk) q1 q3 ?_
          dsimp only
          rw [show off + (pathOff p + i * a.wd) + k * a.wd = off + (pathOff p + (sh i k) * a.wd) from by rw [sh_eq, Nat.add_mul]; omega]
          exact q4
        · exact .inl (hw.1 hz).1
    · cases h
  | _ => simp [famRow] at h
/-- A slice of plain elements. -/
def EltF.row {β : Type} (a : Elt β) : EltF (RowD β) where
  wd := 1
  tags := 1
  get := famRow a
  mkv := fun t i x => .slice t x.b x.off [.elt i 0] a.wd 0 x.n x.c x.z
  dflt := ⟨0, 0, 0, 0, true, fun _ => a.dflt⟩
  fams := fun t n x => [⟨t, 0, 0, 0, n, fun i => .arr (x i).n a.wd fun k => a.mkv ((x i).f k), false, false, 0, 0, false, some fun i => ((x i).b, (x i).off)⟩]
  gs := tagOf
  tg := fun t _ _ => .one rfl
  ro := fun _ _ _ e h => by rw [List.mem_singleton.1 h]
  ok := by
    intro v H ps x h hp hw t j
    cases v with
    | slice g b off p wd i n c z =>
      unfold famRow at h
      dsimp only at h
      split at h
      · simp only [Option.some.injEq, Prod.mk.injEq] at h
        obtain ⟨rfl, rfl⟩ := h
        have hz : z = true := hp.1
        obtain ⟨hn, hcc⟩ := hw.1 hz
        subst hz hn hcc
        exact ⟨by simp [SV.den], by simp [SV.flat], hw, rfl⟩
      split at h
      · simp only [Option.some.injEq, Prod.mk.injEq] at h
        obtain ⟨rfl, rfl⟩ := h
        have p1 := beqN hp.1
        subst p1
        exact ⟨by simp [SV.den, pathOff, PS.off], by simp [SV.flat, pathOff, PS.off], hw, rfl⟩
      · cases h
    | _ => simp [famRow] at h
  okF := by
    intro vs n H xs R h t e he
    rw [List.mem_singleton] at he
    subst he
    refine .inr ⟨rfl, ?_⟩
    -- an entry of elements that all are empty stands by itself
    have triv : (∀ i, i < n → (xs i).n = 0) → ∀ (C : Ctx) (w : World), EntOk C w (⟨t, 0, 0, 0, n, fun i => .arr (xs i).n a.wd fun k => a.mkv ((xs i).f k), false, false, 0, 0, false, some fun i => ((xs i).b, (xs i).off)⟩ : Ent) := fun h0 C w => by
      refine ⟨(fun q => by cases q), (fun _ _ q => by cases q), (fun q => by cases q), (fun q => by cases q), fun f hf i hi hs => absurd ?_ hs, (fun f hf i hi h g hm => by cases hm), fun i hi => ⟨.inl fun k hk => ?_, .inl rfl, fun k hk => ?_⟩⟩
      · show (xs i).n * a.wd = 0
        rw [h0 i hi, Nat.zero_mul]
      · have := h0 i hi; omega
      · have hk : k < (xs i).n * a.wd := hk
        rw [h0 i hi, Nat.zero_mul] at hk
        omega
    by_cases h0 : ∀ i, i < n → (xs i).n = 0
    · exact .inr (triv h0)
    · obtain ⟨i0, h0⟩ := Classical.not_forall.1 h0
      obtain ⟨hi0, h0⟩ := Classical.not_imp.1 h0
      obtain ⟨ps0, a1, a2, a3, a4⟩ := h i0 hi0
      have hg : ∃ g, tagOf (vs i0) = [g] := by
        cases hv : vs i0 with
        | slice g _ _ _ _ _ _ _ _ => exact ⟨g, rfl⟩
        | _ => rw [hv] at a1; simp [famRow] at a1
      obtain ⟨g, hg⟩ := hg
      have hR : R = [g] := by rw [← a4, hg]
      subst hR
      rcases famRow_facts a1 a2 a3 hg with q | ⟨en, hen, _⟩
      · exact absurd q h0
      · refine .inl ⟨g, en, List.mem_singleton.2 rfl, hen, fun C w hO => ?_⟩
        have hrow : ∀ i, i < n → (xs i).n = 0 ∨ (en.ro.z = false ∧ en.ro.blk (xs i).b ∧ ∀ k, k < (xs i).n → (a.mkv ((xs i).f k)).wf ∧ (a.mkv ((xs i).f k)).nt = true ∧ (a.mkv ((xs i).f k)).sz = a.wd ∧ Holds w (xs i).b ((xs i).off + k * a.wd) (a.mkv ((xs i).f k))) := fun i hi => by
          obtain ⟨ps, b1, b2, b3, b4⟩ := h i hi
          rcases famRow_facts b1 b2 b3 b4 with q | ⟨en', hen', hsrc⟩
          · exact .inl q
          · rw [hen] at hen'
            injection hen' with hen'
            subst hen'
            obtain ⟨c1, c2, c3⟩ := hsrc w hO.facts_ro
            refine .inr ⟨by cases en; exact c1, by cases en; exact c2, c3⟩
        refine ⟨(fun q => by cases q), (fun _ _ q => by cases q), (fun q => by cases q), (fun q => by cases q), fun f hf i hi hs => ⟨fun _ => ?_, fun q => by cases q⟩, (fun f hf i hi h g hm => by cases hm), fun i hi => ?_⟩
        · injection hf with hf
          subst hf
          rcases hrow i hi with q | ⟨c1, c2, _⟩
          · refine absurd ?_ hs
            show (xs i).n * a.wd = 0
            rw [q, Nat.zero_mul]
          · exact hO.old c1 rfl _ c2
        · rcases hrow i hi with q | ⟨c1, c2, c3⟩
          · refine ⟨.inl fun k hk => by have hk : k < (xs i).n := hk; omega, .inl rfl, fun k hk => ?_⟩
            have hk : k < (xs i).n * a.wd := hk
            rw [q, Nat.zero_mul] at hk
            omega
          · obtain ⟨d1, d2⟩ := holds_arr c3
            exact ⟨.inl d1, .inl rfl, d2⟩
def EltFL.nil : EltFL Unit where
  wd := 0
  tags := 0
  get := fun l _ => match l with | [] => some ([], ()) | _ => none
  mkv := fun _ _ _ => []
  dflt := ()
  fams := fun _ _ _ => []
  gs := fun _ => []
  tg := fun t _ _ => .nil t 0
  ro := fun _ _ _ _ h => by cases h
  ok := by
    intro vs H ps x h hp hw t i
    cases vs with
    | nil => exact ⟨rfl, trivial⟩
    | cons v r => simp at h
  okF := fun _ _ _ _ _ _ _ _ h => by cases h
def EltFL.cons {α β : Type} (a : EltF α) (r : EltFL β) : EltFL (α × β) where
  wd := a.wd + r.wd
  tags := a.tags + r.tags
  get := fun l H => match l with
    | v :: vs => match a.get v H with
      | some (ps, x) => match r.get vs H with
        | some (qs, y) => match Nat.beq (a.gs v).length a.tags with
          | true => some (ps ++ qs, (x, y))
          | false => none
        | none => none
      | none => none
    | [] => none
  mkv := fun t i x => a.mkv t i x.1 :: r.mkv (t + a.tags) i x.2
  dflt := (a.dflt, r.dflt)
  fams := fun t n x => a.fams t n (fun i => (x i).1) ++ r.fams (t + a.tags) n (fun i => (x i).2)
  gs := fun l => match l with
    | v :: vs => a.gs v ++ r.gs vs
    | [] => []
  tg := fun t n x => (a.tg t n _).app (r.tg (t + a.tags) n _)
  ro := fun t n x e h => by
    rcases List.mem_append.1 h with h | h
    · exact a.ro _ _ _ e h
    · exact r.ro _ _ _ e h
  ok := by
    intro vs H ps x h hp hw t i
    cases vs with
    | nil => simp at h
    | cons v vs =>
      dsimp only at h
      split at h
      · rename_i ps1 x1 h1
        split at h
        · rename_i qs y h2
          split at h
          · simp only [Option.some.injEq, Prod.mk.injEq] at h
            obtain ⟨rfl, rfl⟩ := h
            obtain ⟨p1, p2⟩ := allTrue_append hp
            have s1 := a.ok v H ps1 x1 h1 p1 hw.1 t i
            obtain ⟨f2, w2⟩ := r.ok vs H qs y h2 p2 hw.2.2 (t + a.tags) i
            exact ⟨by simp only [SV.flatL, s1.flat, f2], s1.wf, by rw [s1.nt]; exact hw.2.1, w2⟩
          · cases h
        · cases h
      · cases h
  okF := by
    intro vs n H xs R h t e he
    -- the parts
    have key : ∀ i, i < n → ∃ v l ps qs, vs i = v :: l ∧ a.get v H = some (ps, (xs i).1) ∧ r.get l H = some (qs, (xs i).2) ∧ allTrue ps ∧ allTrue qs ∧ v.wf ∧ SV.wfA l ∧ (a.gs v).length = a.tags ∧ a.gs v ++ r.gs l = R := fun i hi => by
      obtain ⟨ps, h1, h2, h3, h4⟩ := h i hi
      cases hv : vs i with
      | nil => rw [hv] at h1; simp at h1
      | cons v l =>
        rw [hv] at h1 h3 h4
        dsimp only at h1 h4
        split at h1
        · rename_i ps1 x1 g1
          split at h1
          · rename_i qs y g2
            split at h1
            · rename_i hl
              simp only [Option.some.injEq, Prod.mk.injEq] at h1
              obtain ⟨rfl, hxy⟩ := h1
              obtain ⟨p1, p2⟩ := allTrue_append h2
              refine ⟨v, l, ps1, qs, rfl, by rw [g1, ← hxy], by rw [g2, ← hxy], p1, p2, h3.1, h3.2.2, beqN hl, h4⟩
            · cases h1
          · cases h1
        · cases h1
    let hd : List SV → SV := fun l => match l with | v :: _ => v | [] => .bool false
    have hsplit : R = R.take a.tags ++ R.drop a.tags := (List.take_append_drop _ _).symm
    rcases List.mem_append.1 he with he | he
    · have hs := a.okF (fun i => hd (vs i)) n H (fun i => (xs i).1) (R.take a.tags) (fun i hi => by
        obtain ⟨v, l, ps, qs, e1, e2, e3, e4, e5, e6, e7, e8, e9⟩ := key i hi
        refine ⟨ps, by rw [e1]; exact e2, e4, by rw [e1]; exact e6, ?_⟩
        show a.gs (hd (vs i)) = _
        rw [e1, ← e9, ← e8]
        simp [hd]) t e he
      exact hs.mono (fun _ q => q) (fun g q => List.mem_of_mem_take q)
    · have hs := r.okF (fun i => (vs i).tail) n H (fun i => (xs i).2) (R.drop a.tags) (fun i hi => by
        obtain ⟨v, l, ps, qs, e1, e2, e3, e4, e5, e6, e7, e8, e9⟩ := key i hi
        refine ⟨qs, by rw [e1]; exact e3, e5, by rw [e1]; exact e7, ?_⟩
        show r.gs (vs i).tail = _
        rw [e1, ← e9, ← e8]
        simp) (t + a.tags) e he
      exact hs.mono (fun _ q => q) (fun g q => List.mem_of_mem_drop q)
def EltF.agg {β : Type} (r : EltFL β) : EltF β where
  wd := r.wd
  tags := r.tags
  get := fun v H => match v with
    | .agg l => r.get l H
    | _ => none
  mkv := fun t i x => .agg (r.mkv t i x)
  dflt := r.dflt
  fams := r.fams
  gs := fun v => match v with
    | .agg l => r.gs l
    | _ => []
  tg := r.tg
  ro := r.ro
  ok := by
    intro v H ps x h hp hw t i
    cases v <;> simp at h
    rename_i l
    obtain ⟨f, g⟩ := r.ok l H ps x h hp hw t i
    exact ⟨by simp only [SV.den, f], by simp only [SV.flat, f], g, rfl⟩
  okF := by
    intro vs n H xs R h t e he
    let un : SV → List SV := fun v => match v with | .agg l => l | _ => []
    refine r.okF (fun i => un (vs i)) n H xs R (fun i hi => ?_) t e he
    obtain ⟨ps, h1, h2, h3, h4⟩ := h i hi
    cases hv : vs i with
    | agg l =>
      rw [hv] at h1 h3 h4
      exact ⟨ps, h1, h2, h3, h4⟩
    | _ => rw [hv] at h1; simp at h1
/-- What is asked of an element. -/
def conjObs : List Ob → Prop
  | [] => True
  | o :: r => match o with
    | .c b => (match r with
      | [] => b = true
      | _ :: _ => b = true ∧ conjObs r)
    | .p q => (match r with
      | [] => q
      | _ :: _ => q ∧ conjObs r)
theorem conjObs_true : ∀ (l : List Ob), conjObs l → allTrue l
  | [], _ => trivial
  | [.c b], h => ⟨h, trivial⟩
  | [.p q], h => ⟨h, trivial⟩
  | .c b :: y :: r, h => ⟨h.1, conjObs_true (y :: r) h.2⟩
  | .p q :: y :: r, h => ⟨h.1, conjObs_true (y :: r) h.2⟩
def okAt {β : Type} (o : Option (List Ob × β)) : Prop := match o with
  | some (ps, _) => conjObs ps
  | none => False
def datOf {β : Type} (d : β) (o : Option (List Ob × β)) : β := match o with
  | some (_, x) => x
  | none => d
def zipTags : Nat → List Nat → List (Nat × Nat)
  | _, [] => []
  | t, g :: r => (t, g) :: zipTags (t + 1) r
/-- A slice that is read, whose elements may lead to rows. -/
def Arg.rowF {β : Type} (a : EltF β) : Arg (RowD β) where
  get := fun v H => match v with
    | .slice g b off p wd i n c z => match Nat.beq g 999999 with
     | true => some ([.p (z = true)], ⟨0, 0, n, c, z, fun _ => a.dflt⟩)
     | false => match rowOf H g b off p wd z with
      | some (ps, m, get) => some (.c (Nat.beq wd a.wd) :: .c (Nat.blt 0 a.wd) :: .p (sh i n ≤ m) :: .p (∀ k, k < n → okAt (a.get (get (sh i k)) H)) :: .p (∀ k, k < n → a.gs (get (sh i k)) = a.gs (get (sh i 0))) :: ps, ⟨b, off + (pathOff p + i * wd), n, c, z, fun k => datOf a.dflt (a.get (get (sh i k)) H)⟩)
      | none => none
    | _ => none
  sv := fun t x => .slice t x.b x.off [] a.wd 0 x.n x.c x.z
  hp := fun t x => ⟨t, x.b, x.off, a.wd, x.n, fun k => a.mkv (t + 1) k (x.f k), false, false, 0, 0, Nat.beq x.n 0, none⟩ :: a.fams (t + 1) x.n x.f
  om := fun _ _ _ => []
  rm := fun t v H => match v with
    | .slice g b off p wd i n c z => match Nat.beq g 999999 with
      | true => [(t, g)]
      | false => match rowOf H g b off p wd z with
        | some (_, _, get) => (t, g) :: zipTags (t + 1) (a.gs (get (sh i 0)))
        | none => []
    | _ => []
  rt := fun v H => match v with
    | .slice g b off p wd i n c z => match Nat.beq g 999999 with
      | true => [g]
      | false => match rowOf H g b off p wd z with
        | some (_, _, get) => g :: a.gs (get (sh i 0))
        | none => []
    | _ => []
  tags := 1 + a.tags
  tg := fun t x => .cons rfl (a.tg (t + 1) x.n x.f)
  ok := by
    intro v H ps x h hp hw hex t
    cases v with
    | slice g b off p wd i n c z =>
      dsimp only at h
      split at h
      · rename_i hb9
        simp only [Option.some.injEq, Prod.mk.injEq] at h
        obtain ⟨rfl, rfl⟩ := h
        have hz : z = true := hp.1
        obtain ⟨hn, hcc⟩ := hw.1 hz
        subst hz hn hcc
        refine ⟨⟨by simp [SV.den], by simp [SV.flat], hw, rfl⟩, fun e he => ?_⟩
        rcases List.mem_cons.1 he with he | he
        · subst he
          exact .inr ⟨rfl, .inr fun C w => ⟨(fun q => by cases q), (fun _ q => by simp at q), (fun _ => ⟨rfl, rfl⟩), (fun q => by cases q), (fun f q => by cases q), (fun f q => by cases q), (fun k hk => absurd hk (Nat.not_lt_zero _))⟩⟩
        · exact (a.okF (fun _ => .bool false) 0 H (fun _ => a.dflt) [] (fun k hk => absurd hk (Nat.not_lt_zero _)) (t + 1) e he).mono (fun _ q => (by cases q)) (fun _ q => by cases q)
      split at h
      · rename_i hb9 _ qs m get hel
        simp only [Option.some.injEq, Prod.mk.injEq] at h
        obtain ⟨rfl, rfl⟩ := h
        obtain ⟨p1, pw, p2, p3, p3', p4⟩ := hp
        have p1 := beqN p1
        subst p1
        have pw : 0 < a.wd := by simpa [Nat.blt_eq] using pw
        have p2 : sh i n ≤ m := p2
        have p3 : ∀ k, k < n → okAt (a.get (get (sh i k)) H) := p3
        have p3' : ∀ k, k < n → a.gs (get (sh i k)) = a.gs (get (sh i 0)) := p3'
        rw [sh_eq] at p2
        have hel' : ∀ k, k < n → ∃ rs, a.get (get (sh i k)) H = some (rs, datOf a.dflt (a.get (get (sh i k)) H)) ∧ allTrue rs := fun k hk => by
          have := p3 k hk
          cases hg : a.get (get (sh i k)) H with
          | none => rw [hg] at this; exact this.elim
          | some q =>
            obtain ⟨rs, y⟩ := q
            rw [hg] at this
            exact ⟨rs, rfl, conjObs_true _ this⟩
        refine ⟨⟨by simp [SV.den, pathOff], by simp [SV.flat, pathOff], hw, rfl⟩, fun e he => ?_⟩
        have hwf : ∀ k, k < n → (get (sh i k)).wf := fun k hk => by
          rcases row_facts hel p4 with ⟨en, hen, hsrc⟩ | hz
          · obtain ⟨C0, w0, hS0⟩ := hex
            obtain ⟨_, s2⟩ := hsrc w0 (hS0.ents en (find_mem H g en hen).1).facts
            exact (s2 (sh i k) (by rw [sh_eq]; omega)).1
          · have := (hw.1 hz).1; omega
        dsimp only
        rw [hb9]
        dsimp only
        rw [hel]
        dsimp only
        rcases List.mem_cons.1 he with he | he
        · subst he
          refine .inr ⟨rfl, ?_⟩
          by_cases h0 : n = 0
          · refine .inr fun C w => ?_
            subst h0
            exact ⟨(fun q => by cases q), (fun _ q => by simp at q), (fun _ => ⟨rfl, rfl⟩), (fun q => by cases q), (fun f q => by cases q), (fun f q => by cases q), (fun k hk => absurd hk (Nat.not_lt_zero _))⟩
          · rcases row_facts hel p4 with ⟨en, hen, hsrc⟩ | hz
            · refine .inl ⟨g, en, List.mem_cons_self .., hen, fun C w hO => ?_⟩
              obtain ⟨s1, s2⟩ := hsrc w hO.facts_ro
              obtain ⟨s0, s1⟩ := s1 (by omega)
              have hold := hO.old s0 rfl b (s1 pw)
              have hzz : Nat.beq n 0 = false := by
                cases hb : Nat.beq n 0 with
                | false => rfl
                | true => exact absurd (beqN hb) h0
              refine ⟨(fun q => by cases q), fun _ _ _ => hold, (fun q => by dsimp only at q; rw [hzz] at q; cases q), (fun q => by cases q), (fun f q => by cases q), (fun f q => by cases q), fun k hk => ?_⟩
              have hk : k < n := hk
              obtain ⟨q1, q2, q3, q4⟩ := s2 (sh i k) (by rw [sh_eq]; omega)
              obtain ⟨rs, g1, g2⟩ := hel' k hk
              have hs := a.ok _ H rs _ g1 g2 q1 (t + 1) k
              have hsz : (a.mkv (t + 1) k (datOf a.dflt (a.get (get (sh i k)) H))).sz = a.wd := by rw [← q3, ← len_flat _ hs.wf, hs.flat, len_flat _ q1]
              refine ⟨.inl hs.wf, (show (a.mkv _ _ _).nt = true from by rw [hs.nt]; exact q2), hsz, fun j hj => ?_⟩
              dsimp only at hj ⊢
              rw [hs.flat]
              rw [show off + (pathOff p + i * a.wd) + k * a.wd = off + (pathOff p + (sh i k) * a.wd) from by rw [sh_eq, Nat.add_mul]; omega]
              exact q4 j (by rw [q3, ← hsz]; exact hj)
            · exact absurd (hw.1 hz).1 h0
        · refine (a.okF (fun k => get (sh i k)) n H (fun k => datOf a.dflt (a.get (get (sh i k)) H)) (a.gs (get (sh i 0))) (fun k hk => ?_) (t + 1) e he).mono (fun _ q => (by cases q)) (fun _ q => List.mem_cons_of_mem _ q)
          obtain ⟨rs, g1, g2⟩ := hel' k hk
          exact ⟨rs, g1, g2, hwf k hk, p3' k hk⟩
      · cases h
    | _ => simp at h

/-- What is known of a slice that may be written. -/
structure OwnD (β : Type) where
  b : Nat
  off : Nat
  n : Nat
  c : Nat
  z : Bool
  m : Nat
  cap : Nat
  ez : Bool
  f : Nat → β
def Arg.orow {β : Type} (ty : TypeId) (a : Elt β) : Arg (OwnD β) where
  get := fun v H => match v with
    | .slice g b off [] wd i n c z => match H.find g with
      | some e => match e.wr with
        | true => some (.p (e.b = b ∧ e.off = off) :: .c (Nat.beq wd a.wd) :: .c (Nat.beq e.wd a.wd) :: .c (Nat.beq e.t ty) :: .p (i = 0 ∧ allGet a e.get e.n) :: [], ⟨b, off, n, c, z, e.n, e.cap, e.z, fun k => (a.get (e.get k)).getD a.dflt⟩)
        | false => none
      | none => none
    | _ => none
  sv := fun t x => .slice t x.b x.off [] a.wd 0 x.n x.c x.z
  hp := fun t x => [⟨t, x.b, x.off, a.wd, x.m, fun k => a.mkv (x.f k), true, false, x.cap, ty, x.ez, none⟩]
  om := fun t v H => match v with
    | .slice g _ _ _ _ _ _ _ _ => [(t, g)]
    | _ => []
  rt := fun _ _ => []
  tags := 1
  tg := fun t x => .one rfl
  ok := by
    intro v H ps x h hp hw _ t
    split at h
    · rename_i g b off wd i n c z
      split at h
      · rename_i en hen
        split at h
        · rename_i hwr
          obtain ⟨hown, hfam⟩ := wr_iff.1 hwr
          simp only [Option.some.injEq, Prod.mk.injEq] at h
          obtain ⟨rfl, rfl⟩ := h
          obtain ⟨p1, p2, p3, p4, p5, _⟩ := hp
          have p2 := beqN p2
          have p3 := beqN p3
          have p4 := beqN p4
          obtain ⟨pi, p5⟩ := (p5 : i = 0 ∧ allGet a en.get en.n)
          subst p2 pi
          refine ⟨⟨by simp [SV.den], by simp [SV.flat], hw, rfl⟩, fun e he => .inl ?_⟩
          simp only [List.mem_singleton] at he
          subst he
          refine ⟨rfl, g, en, List.mem_singleton.2 rfl, hen, ⟨hwr, rfl⟩, p1.1.symm, rfl, fun C w hO => ?_⟩
          refine ⟨(fun q => by cases q), (fun q => by cases q), hO.z, fun _ hz _ => ?_, (fun f q => by cases q), (fun f q => by cases q), fun k hk => ?_⟩
          · obtain ⟨o1, o2, cs, fz, o3, o4, o5⟩ := hO.ow hown hz hfam
            refine ⟨by rw [← p1.1]; exact o1, o2, cs, fz, by rw [← p1.1, ← p4]; exact o3, ?_, o5⟩
            rw [← p1.2, ← p3]
            exact o4
          · obtain ⟨q1, q2, q3⟩ := hO.row k hk
            rw [hfam] at q3 q2
            suffices hh : _ from (fun t => ⟨.inl t.1, t.2⟩) (elt_facts (p5 k hk) (wfF_wf q1 (isM_nt q2)) (by rw [q3.1, p3]) hh)
            dsimp only
            rw [← p1.1, ← p1.2, ← p3]
            exact q3.2
        · cases h
      · cases h
    · cases h

/-- A function value that is known, with what it has captured. -/
def Arg.fnc {α : Type} (k : FuncId) (r : ArgL α) : Arg α where
  get := fun v H => match v with
    | .fn (.func k') [] m => match Nat.beq k' k with
      | true => r.get m H
      | false => none
    | _ => none
  sv := fun t x => .fn (.func k) [] (r.svs t x)
  hp := r.hp
  om := fun t v H => match v with
    | .fn _ _ m => r.om t m H
    | _ => []
  rm := fun t v H => match v with
    | .fn _ _ m => r.rm t m H
    | _ => []
  rt := fun v H => match v with
    | .fn _ _ m => r.rt m H
    | _ => []
  tags := r.tags
  tg := r.tg
  ok := by
    intro v H ps x h hp hw hex t
    split at h
    · rename_i k' m
      split at h
      · rename_i hk
        have hk' : k' = k := by simpa using hk
        subst hk'
        obtain ⟨d, _, _, g, e⟩ := r.ok m H ps x h hp (fun v hv => (wfL_iff m).1 hw.2 v hv) hex t
        exact ⟨⟨by simp only [SV.den, d], by simp only [SV.flat, d], ⟨trivial, (wfL_iff _).2 g⟩, rfl⟩, e⟩
      · cases h
    · cases h
/-- A function value that is known, with what it is called with first (a method value). -/
def Arg.fnl {α : Type} (k : FuncId) (r : ArgL α) : Arg α where
  get := fun v H => match v with
    | .fn (.func k') m [] => match Nat.beq k' k with
      | true => r.get m H
      | false => none
    | _ => none
  sv := fun t x => .fn (.func k) (r.svs t x) []
  hp := r.hp
  om := fun t v H => match v with
    | .fn _ m _ => r.om t m H
    | _ => []
  rm := fun t v H => match v with
    | .fn _ m _ => r.rm t m H
    | _ => []
  rt := fun v H => match v with
    | .fn _ m _ => r.rt m H
    | _ => []
  tags := r.tags
  tg := r.tg
  ok := by
    intro v H ps x h hp hw hex t
    split at h
    · rename_i k' m
      split at h
      · rename_i hk
        have hk' : k' = k := by simpa using hk
        subst hk'
        obtain ⟨d, _, _, g, e⟩ := r.ok m H ps x h hp (fun v hv => (wfL_iff m).1 hw.1 v hv) hex t
        exact ⟨⟨by simp only [SV.den, d], by simp only [SV.flat, d], ⟨(wfL_iff _).2 g, trivial⟩, rfl⟩, e⟩
      · cases h
    · cases h
/-- A pointer to a variable that is only read, whose value has a pattern. -/
def Arg.ptr {α : Type} (wd : Nat) (a : Arg α) : Arg (Nat × Nat × α) where
  get := fun v H => match v with
    | .ptr g b off (.elt i w0 :: r) => match H.find g with
      | some e => match nav (e.get i) r with
        | some (ps, u) => match a.get u H with
          | some (qs, x) => some (locOb e b off i w0 (idxOb e i :: .c (Nat.beq u.sz wd) :: .c (Nat.blt 0 wd) :: .c u.nt :: (ps ++ qs)), (b, off + (i * w0 + pathOff r), x))
          | none => none
        | none => none
      | none => none
    | _ => none
  sv := fun t x => .ptr t x.1 x.2.1 [.elt 0 wd]
  hp := fun t x => ⟨t, x.1, x.2.1, wd, 1, fun _ => a.sv (t + 1) x.2.2, false, true, 0, 0, false, none⟩ :: a.hp (t + 1) x.2.2
  om := fun t v H => match v with
    | .ptr g b off (.elt i w0 :: r) => match H.find g with
      | some e => match nav (e.get i) r with
        | some (_, u) => a.om (t + 1) u H
        | none => []
      | none => []
    | _ => []
  rm := fun t v H => match v with
    | .ptr g b off (.elt i w0 :: r) => match H.find g with
      | some e => match nav (e.get i) r with
        | some (_, u) => (t, g) :: a.rm (t + 1) u H
        | none => []
      | none => []
    | _ => []
  rt := fun v H => match v with
    | .ptr g b off (.elt i w0 :: r) => match H.find g with
      | some e => match nav (e.get i) r with
        | some (_, u) => g :: a.rt u H
        | none => []
      | none => []
    | _ => []
  tags := 1 + a.tags
  tg := fun t x => .cons rfl (a.tg (t + 1) x.2.2)
  ok := by
    intro v H ps x h hp hw hex t
    split at h
    · rename_i g b off i w0 r
      split at h
      · rename_i e he
        split at h
        · rename_i ns u hn
          split at h
          · rename_i qs y hy
            simp only [Option.some.injEq, Prod.mk.injEq] at h
            obtain ⟨rfl, rfl⟩ := h
            have hu : ∀ w, RowFacts w e → u.wf ∧ Holds w b (off + (i * w0 + pathOff r)) u ∧ e.blk b ∧ e.z = false ∧ u.sz = wd ∧ u.nt = true ∧ allTrue qs := fun w hent => by
              obtain ⟨r1', r3, ⟨p5, pw, p6, p7⟩, pb, pi⟩ := loc_facts hp hent
              have r1 := wfF_wf r1' (nav_isM (by assumption))
              obtain ⟨p8, p9⟩ := allTrue_append p7
              obtain ⟨n1, n2, n3⟩ := nav_sound r _ _ ns hn p8 r1
              have pw : 0 < wd := by simpa [Nat.blt_eq] using pw
              refine ⟨n1, ?_, pb (by rw [beqN p5] at n2; omega), hent.nz pi, beqN p5, p6, p9⟩
              have := r3.sub n2 n3
              rw [Nat.add_assoc] at this
              exact this
            obtain ⟨C0, w0', hS0⟩ := hex
            obtain ⟨uw, _, _, _, usz, unt, pq⟩ := hu w0' (hS0.ents e (find_mem H g e he).1).facts
            obtain ⟨s1, e1⟩ := a.ok u H qs y hy pq uw ⟨C0, w0', hS0⟩ (t + 1)
            refine ⟨⟨by simp [SV.den, pathOff, PS.off], by simp [SV.flat, pathOff, PS.off], trivial, rfl⟩, fun en hen => ?_⟩
            have hsz : (a.sv (t + 1) y).sz = u.sz := by rw [← len_flat _ s1.wf, s1.flat, len_flat _ uw]
            rcases List.mem_cons.1 hen with hen | hen
            · subst hen
              refine .inr ⟨rfl, .inl ⟨g, e, List.mem_cons_self .., he, fun C w hO => ?_⟩⟩
              obtain ⟨_, uh, ub, uz, _⟩ := hu w hO.facts_ro
              have hold := hO.old uz rfl b ub
              refine ⟨(fun _ => Nat.le_refl _), fun _ _ _ => hold, (fun q => by cases q), (fun q => by cases q), (fun f q => by cases q), (fun f q => by cases q), fun k hk => ?_⟩
              refine ⟨.inl s1.wf, (show (a.sv _ _).nt = true from by rw [s1.nt]; exact unt), by rw [hsz]; exact usz, fun j hj => ?_⟩
              have hk0 : k = 0 := by dsimp only at hk; omega
              subst hk0
              dsimp only at hj ⊢
              rw [s1.flat, Nat.zero_mul, Nat.add_zero]
              exact uh j (by rw [← hsz]; exact hj)
            · exact (e1 en hen).mono (fun _ h => h) (fun _ h => List.mem_cons_of_mem _ h)
          · cases h
        · cases h
      · cases h
    · cases h
/-- A pointer to a variable that may be written. -/
def Arg.optr {α : Type} (ty : TypeId) (wd : Nat) (a : Arg α) : Arg (Nat × Nat × α) where
  get := fun v H => match v with
    | .ptr g b off [.elt 0 w0] => match H.find g with
      | some e => match e.wr, e.one with
        | true, true => match a.get (e.get 0) H with
          | some (qs, x) => some (.p (e.b = b ∧ e.off = off) :: .c (Nat.beq w0 wd) :: .c (Nat.beq e.wd wd) :: .c (Nat.beq e.t ty) :: .c (Nat.beq e.n 1) :: .c (!e.z) :: .c (e.get 0).nt :: qs, (b, off, x))
          | none => none
        | _, _ => none
      | none => none
    | _ => none
  sv := fun t x => .ptr t x.1 x.2.1 [.elt 0 wd]
  hp := fun t x => ⟨t, x.1, x.2.1, wd, 1, fun _ => a.sv (t + 1) x.2.2, true, true, 1, ty, false, none⟩ :: a.hp (t + 1) x.2.2
  om := fun t v H => match v with
    | .ptr g b off _ => match H.find g with
      | some e => (t, g) :: a.om (t + 1) (e.get 0) H
      | none => []
    | _ => []
  rm := fun t v H => match v with
    | .ptr g b off _ => match H.find g with
      | some e => a.rm (t + 1) (e.get 0) H
      | none => []
    | _ => []
  rt := fun v H => match v with
    | .ptr g b off _ => match H.find g with
      | some e => a.rt (e.get 0) H
      | none => []
    | _ => []
  tags := 1 + a.tags
  tg := fun t x => .cons rfl (a.tg (t + 1) x.2.2)
  ok := by
    intro v H ps x h hp hw hex t
    split at h
    · rename_i g b off w0
      split at h
      · rename_i e he
        split at h
        · rename_i hwr hone
          obtain ⟨hown, hfam⟩ := wr_iff.1 hwr
          split at h
          · rename_i qs y hy
            simp only [Option.some.injEq, Prod.mk.injEq] at h
            obtain ⟨rfl, rfl⟩ := h
            obtain ⟨p1, p2, p3, p4, p5, p6, p7, p8⟩ := hp
            have p2 := beqN p2
            have p3 := beqN p3
            have p4 := beqN p4
            have p5 := beqN p5
            have p6 : e.z = false := by simpa using p6
            subst p2
            obtain ⟨C0, w0', hS0⟩ := hex
            obtain ⟨uw', un', _⟩ := (hS0.ents e (find_mem H g e he).1).row 0 (by omega)
            rw [hfam] at un'
            have un : (e.get 0).nt = true := un'
            have uw := wfF_wf uw' (isM_nt un)
            obtain ⟨s1, e1⟩ := a.ok _ H qs y hy p8 uw ⟨C0, w0', hS0⟩ (t + 1)
            have hsz : (a.sv (t + 1) y).sz = (e.get 0).sz := by rw [← len_flat _ s1.wf, s1.flat, len_flat _ uw]
            refine ⟨⟨by simp [SV.den], by simp [SV.flat], trivial, rfl⟩, fun en hen => ?_⟩
            simp only [he]
            rcases List.mem_cons.1 hen with hen | hen
            · subst hen
              refine .inl ⟨rfl, g, e, List.mem_cons_self .., he, ⟨hwr, rfl⟩, p1.1.symm, p6.symm, fun C w hO => ?_⟩
              obtain ⟨q1, q2, q3⟩ := hO.row 0 (by omega)
              rw [hfam] at q3
              refine ⟨(fun _ => Nat.le_refl _), (fun q => by cases q), (fun q => by cases q), fun _ _ _ => ?_, (fun f q => by cases q), (fun f q => by cases q), fun k hk => ?_⟩
              · obtain ⟨o1, o2, cs, fz, o3, o4, o5⟩ := hO.ow hown p6 hfam
                refine ⟨by rw [← p1.1]; exact o1, Nat.le_refl _, cs, fz, by rw [← p1.1, ← p4]; exact o3, ?_, o5⟩
                rw [← p1.2]
                dsimp only
                rw [← p3]
                exact Nat.le_trans (Nat.add_le_add_left (Nat.mul_le_mul_right _ (by omega)) _) o4
              · refine ⟨.inl s1.wf, (show (a.sv _ _).nt = true from by rw [s1.nt]; exact un), by rw [hsz, q3.1, p3], fun j hj => ?_⟩
                have hk0 : k = 0 := by dsimp only at hk; omega
                subst hk0
                dsimp only at hj ⊢
                rw [s1.flat, ← p1.1, ← p1.2, ← p3]
                exact q3.2 j (by rw [← hsz]; exact hj)
            · exact (e1 en hen).mono (fun _ h => List.mem_cons_of_mem _ h) (fun _ h => h)
          · cases h
        · cases h
      · cases h
    · cases h

/-- A pattern that only reads. -/
class Arg.RO {α : Type} (a : Arg α) : Prop where
  out : ∀ t x, ∀ e ∈ a.hp t x, e.own = false
class ArgL.RO {α : Type} (a : ArgL α) : Prop where
  out : ∀ t x, ∀ e ∈ a.hp t x, e.own = false
instance : ArgL.RO .nil := ⟨fun _ _ _ h => by cases h⟩
instance {α β : Type} (a : Arg α) (r : ArgL β) [a.RO] [r.RO] : ArgL.RO (.cons a r) := ⟨fun t x e h => by
  rcases List.mem_append.1 h with h | h
  · exact Arg.RO.out t x.1 e h
  · exact ArgL.RO.out _ x.2 e h⟩
instance {β : Type} (a : Elt β) : Arg.RO (.elt a) := ⟨fun _ _ _ h => by cases h⟩
instance {α : Type} (r : ArgL α) [r.RO] : Arg.RO (.agg r) := ⟨fun t x => ArgL.RO.out (a := r) t x⟩
instance {β : Type} (a : Elt β) : Arg.RO (.row a) := ⟨fun t x e h => by rw [List.mem_singleton.1 h]⟩
instance {β : Type} (a : EltF β) : Arg.RO (.rowF a) := ⟨fun t x e h => by
  rcases List.mem_cons.1 h with h | h
  · rw [h]
  · exact a.ro _ _ _ e h⟩
instance {α : Type} (k : FuncId) (r : ArgL α) [r.RO] : Arg.RO (.fnc k r) := ⟨fun t x => ArgL.RO.out (a := r) t x⟩
instance {α : Type} (k : FuncId) (r : ArgL α) [r.RO] : Arg.RO (.fnl k r) := ⟨fun t x => ArgL.RO.out (a := r) t x⟩
instance {α : Type} (wd : Nat) (a : Arg α) [a.RO] : Arg.RO (.ptr wd a) := ⟨fun t x e h => by
  rcases List.mem_cons.1 h with h | h
  · rw [h]
  · exact Arg.RO.out _ x.2.2 e h⟩
/-- A value of one cell that is not looked at. -/
def Arg.any : Arg Value where
  get := fun v _ => match v.isAgg, v.nt with
    | false, true => some ([], v.den)
    | _, _ => none
  sv := fun _ x => .val x
  hp := fun _ _ => []
  om := fun _ _ _ => []
  rt := fun _ _ => []
  tags := 0
  tg := fun t _ => .nil t 0
  ok := by
    intro v H ps x h hp hw _ t
    split at h
    · rename_i h1 h2
      simp only [Option.some.injEq, Prod.mk.injEq] at h
      obtain ⟨_, rfl⟩ := h
      refine ⟨?_, fun _ h => by cases h⟩
      have hf := den_single hw h1
      refine ⟨rfl, hf.symm, ?_, by rw [h2]; rfl⟩
      cases v <;> first | trivial | (simp [SV.isAgg] at h1; done) | (simp [SV.nt] at h2; done) | exact hw
    · cases h
instance : Arg.RO Arg.any := ⟨fun _ _ _ h => by cases h⟩
/-- A function value that has captured one variable, whose address alone matters here; the variable's tag is 900001 throughout. -/
def Arg.cl (k : FuncId) (wd : Nat) : Arg (Nat × Nat) where
  get := fun v _ => match v with
    | .fn (.func k') [] [.ptr _ b off [.elt i _]] => match Nat.beq k' k, Nat.beq i 0 with
      | true, true => some ([], (b, off))
      | _, _ => none
    | _ => none
  sv := fun _ x => .fn (.func k) [] [.ptr 900001 x.1 x.2 [.elt 0 wd]]
  hp := fun _ _ => []
  om := fun _ _ _ => []
  rt := fun _ _ => []
  tags := 0
  tg := fun t _ => .nil t 0
  ok := by
    intro v H ps x h hp hw _ t
    split at h
    · rename_i k' g b off i w0
      split at h
      · rename_i h1 h2
        have h1 := beqN h1
        have h2 := beqN h2
        subst h1 h2
        simp only [Option.some.injEq, Prod.mk.injEq] at h
        obtain ⟨_, rfl⟩ := h
        exact ⟨⟨by simp [SV.den, SV.denL, pathOff, PS.off], by simp [SV.flat, SV.denL, SV.den, pathOff, PS.off], ⟨trivial, trivial, trivial⟩, rfl⟩, fun _ h => by cases h⟩
      · cases h
    · cases h
instance (k : FuncId) (wd : Nat) : Arg.RO (Arg.cl k wd) := ⟨fun _ _ _ h => by cases h⟩
theorem w64_id {x : Int} (h1 : -9223372036854775808 ≤ x) (h2 : x ≤ 9223372036854775807) : IntKind.i64.wrap x = x := by
  rw [IntKind.wrap_i64]; omega

def pOb : List Prop → List Ob
  | [] => []
  | p :: r => .p p :: pOb r
def allT : List Prop → Prop
  | [] => True
  | p :: r => p ∧ allT r
theorem pOb_true : ∀ (l : List Prop), allTrue (pOb l) ↔ allT l
  | [] => Iff.rfl
  | p :: r => by simp [pOb, allTrue, allT, pOb_true r]
theorem EntOk.to_ro {e : Ent} (h : EntOk C w e) (hk : Kept C w) : EntOk (Own w) w e.ro := by
  have hl := fun hz => h.lt hz hk
  have hnz := fun i (hi : i < e.n) => h.facts.nz hi
  obtain ⟨g, b, off, wd, n, get, own, one, cap, t, z, fam⟩ := e
  refine ⟨h.one, fun _ hz hf => ⟨hl hz _ ?_, fun q => q⟩, h.z, fun q => (by cases q), fun f hf i hi hs => ⟨fun _ => ⟨hl (hnz i hi) _ ?_, fun q => q⟩, fun q => (by cases q)⟩, fun f hf i hi h0 g0 hm => ⟨fun _ => ⟨hl (hnz i hi) _ ?_, fun q => q⟩, fun q => (by cases q), (h.mob f hf i hi h0 g0 hm).2.2⟩, h.row⟩
  · have hf : fam = none := hf
    subst hf
    exact rfl
  · have hf : fam = some f := hf
    subst hf
    exact ⟨i, hi, .inl hs, rfl⟩
  · have hf : fam = some f := hf
    have hm' : get i = .mobj h0 g0 := hm
    subst hf
    exact ⟨i, hi, .inr ((congrArg SV.isM hm').trans rfl), rfl⟩
/-- A view of the arguments' memory, all of it only read. -/
theorem src_own (hS : Sat C H w) {M : List (Nat × Nat)} {R : List Nat} {D : Hp} (hD : ∀ e ∈ D, e.own = false ∧ Src H M R e) : Sat (Own w) D w := by
  refine ⟨Kept.refl w, fun e he => ?_, ?_⟩
  · obtain ⟨ho, hs⟩ := hD e he
    rcases hs with ⟨h, _⟩ | ⟨_, ⟨g, en, _, hen, h⟩ | h⟩
    · rw [ho] at h; cases h
    · exact h _ _ ((hS.ents en (find_mem H g en hen).1).to_ro hS.kept)
    · exact h _ _
  · refine List.pairwise_of_forall_mem_list fun e he e' he' ho => ?_
    rw [(hD e he).1] at ho
    cases ho
/-- A pure contract by a pattern. -/
def pcOf {α : Type} (L : ArgL α) (pre : α → List Prop) (res : α → SV) : List SV → Hp → Option (List Ob × SV) := fun args H => match L.get args H with
  | some (ps, x) => some (ps ++ pOb (pre x), res x)
  | none => none
theorem pcOf_ok {α : Type} {L : ArgL α} {pre : α → List Prop} {res : α → SV} {f : FuncId} [hro : L.RO] (hgo : GoFn P f) (hres : ∀ x, (∀ v ∈ L.svs 0 x, v.wf) → (res x).wf)
    (body : ∀ x, allT (pre x) → (∀ v ∈ L.svs 0 x, v.wf) → ∀ w, Sat (Own w) (L.hp 0 x) w → Calls P f (SV.denL (L.svs 0 x)).toArray w fun e w' => ∃ (r : SV) (H' : Hp) (nx' : Nat), r.den = (res x).den ∧ r.wf ∧ e = .returned r.den ∧ Sat (Own w) H' w') : PcOk P f (pcOf L pre res) := by
  intro args H ps v h hw hp hX
  unfold pcOf at h
  split at h
  · rename_i qs x hx
    simp only [Option.some.injEq, Prod.mk.injEq] at h
    obtain ⟨rfl, rfl⟩ := h
    obtain ⟨p1, p2⟩ := allTrue_append hp
    refine ⟨?_, hgo, fun C w hS => ?_⟩
    · obtain ⟨C, w, hS⟩ := hX
      obtain ⟨_, _, _, g, _⟩ := L.ok args H qs x hx p1 hw ⟨C, w, hS⟩ 0
      exact hres x g
    obtain ⟨d, _, _, g, e⟩ := L.ok args H qs x hx p1 hw ⟨C, w, hS⟩ 0
    rw [← d]
    refine (body x ((pOb_true _).1 p2) g w (src_own hS fun x hx => ⟨hro.out _ _ x hx, e x hx⟩)).mono ?_
    rintro e w' ⟨r, H', nx', k1, k2, rfl, k4⟩
    exact ⟨by rw [k1], hS.trans_own k4.kept⟩
  · cases h
/-- .. whose body is run by the engine. -/
theorem pcOf_runS {α : Type} {L : ArgL α} {pre : α → List Prop} {res : α → SV} {f : FuncId} {fn : Func} {c : Code} {E : α → Env} [hro : L.RO] (hE : ∀ x, EnvOk P (E x)) (hf : P.funcs[f]? = some fn) (hb : fn.body = some c) (hn : (fn.name == "runtime.NumGoroutine") = false)
    (hres : ∀ x, (∀ v ∈ L.svs 0 x, v.wf) → (res x).wf) (A : α → List An) (hN : ∀ x, (L.svs 0 x).length ≤ fn.ntmps)
    (h : ∀ x, allT (pre x) → (∀ v ∈ L.svs 0 x, v.wf) → exCode (E x) fn.ntmps (A x) c (argFr 0 (L.svs 0 x)) (L.hp 0 x) L.tags (atEnd (E x) fn.results.toList fun r _ _ => eqv r (res x))) : PcOk P f (pcOf L pre res) :=
  pcOf_ok (goFn_of hf (by rw [hb]; rfl) hn) hres fun x hp hw w hS => (calls_of_ex (hE x) hf hb (A x) _ hw (hN x) _ L.tags _ (h x hp hw) hS).mono fun e w' ⟨r, H', nx', k1, k2, k3, k4⟩ => ⟨r, H', nx', (eqv_sound _ _ k1).den, k2, k3, k4⟩
/-- .. whose body is run by the engine. -/
theorem pcOf_run {α : Type} {L : ArgL α} {pre : α → List Prop} {res : α → SV} {f : FuncId} {fn : Func} {c : Code} {E : α → Env} [hro : L.RO] (hE : ∀ x, EnvOk P (E x)) (hf : P.funcs[f]? = some fn) (hb : fn.body = some c) (hn : (fn.name == "runtime.NumGoroutine") = false)
    (hres : ∀ x, (res x).wf) (A : α → List An) (hN : ∀ x, (L.svs 0 x).length ≤ fn.ntmps)
    (h : ∀ x, allT (pre x) → (∀ v ∈ L.svs 0 x, v.wf) → exCode (E x) fn.ntmps (A x) c (argFr 0 (L.svs 0 x)) (L.hp 0 x) L.tags (atEnd (E x) fn.results.toList fun r _ _ => eqv r (res x))) : PcOk P f (pcOf L pre res) :=
  pcOf_runS hE hf hb hn (fun x _ => hres x) A hN h
end
end Eng
