/-
  OWN WORK. THE ENGINE, part C: what frames and heaps say of a world; operands; the pure operations.
-/
import Derived.Test.YtnibcchhhebfaaaGreatDoorEngB
import Derived.MapKept
namespace Eng
open Go
set_option linter.unusedVariables false

structure Ctx where
  w0 : World
  M : Nat → Prop
/-- Of what was there at the beginning nothing has turned but the blocks of M. -/
structure Kept (C : Ctx) (w : World) : Prop where
  os : w.os = C.w0.os
  tape : w.tape = C.w0.tape
  output : w.output = C.w0.output
  size : C.w0.heap.size ≤ w.heap.size
  block : ∀ k, k < C.w0.heap.size → ¬ C.M k → w.heap[k]? = C.w0.heap[k]?
def Holds (w : World) (b a : Nat) (v : SV) : Prop := ∀ k, k < v.sz → w.cell? ⟨b, a + k, none⟩ = v.flat[k]?
/-- It lies somewhere: it has cells, or is a map's content. -/
def SV.occ (v : SV) : Prop := v.sz ≠ 0 ∨ v.isM = true
/-- The blocks that an entry speaks of. -/
def Ent.blk (e : Ent) (k : Nat) : Prop := match e.fam with
  | none => k = e.b
  | some f => ∃ i, i < e.n ∧ (e.get i).occ ∧ (f i).1 = k
/-- Block b is a map that holds this. -/
def MapIs (w : World) (b : Nat) (h : Int → Bool) (g : Int → SV) : Prop := ∃ es clock, w.heap[b]? = some (.map es clock) ∧ MapKept.Stamped es clock ∧
  (∀ e ∈ es.toList, ∃ x, e.key = .int .i64 x ∧ h x = true ∧ e.val = (g x).den) ∧
  ∀ x, h x = true → (g x).wf ∧ (g x).nt = true ∧ (g x).isAgg = false ∧ ∃ e ∈ es.toList, e.key = .int .i64 x
theorem MapIs.lt {w : World} {b : Nat} {h : Int → Bool} {g : Int → SV} (k : MapIs w b h g) : b < w.heap.size := by
  obtain ⟨es, clock, h1, _⟩ := k
  exact (Array.getElem?_eq_some_iff.1 h1).1
theorem MapIs.same {w w' : World} {b : Nat} {h : Int → Bool} {g : Int → SV} (k : MapIs w b h g) (e : w'.heap[b]? = w.heap[b]?) : MapIs w' b h g := by
  obtain ⟨es, clock, h1, h2⟩ := k
  exact ⟨es, clock, e.trans h1, h2⟩
/-- What may stand in an entry: no tuple; in a family also a map's content. -/
def ntF (f : Option (Nat → Nat × Nat)) (v : SV) : Prop := match f with
  | none => v.nt = true
  | some _ => v.nt = true ∨ v.isM = true
/-- Well formed, or a map's content. -/
def SV.wfF (v : SV) : Prop := v.wf ∨ v.isM = true
theorem wfF_wf {v : SV} (h : v.wfF) (hn : v.isM = false) : v.wf := by
  rcases h with h | h
  · exact h
  · rw [hn] at h; cases h
theorem isM_nt {v : SV} (h : v.nt = true) : v.isM = false := by cases v <;> simp_all [SV.nt, SV.isM]
theorem isM_eq {v : SV} (h : v.isM = true) : ∃ a b, v = .mobj a b := by cases v <;> simp_all [SV.isM]
theorem ntF_nt {f : Option (Nat → Nat × Nat)} {v : SV} (h : v.nt = true) : ntF f v := by
  cases f with
  | none => exact h
  | some _ => exact .inl h
/-- A block of cells that may be written. -/
def WrB (w : World) (b : Nat) : Prop := ∃ cs t fz, w.heap[b]? = some (.cells cs t fz) ∧ ∀ k, k < cs.size → ¬ (fz.1 ≤ k ∧ k < fz.2)
theorem WrB.lt {w : World} {b : Nat} (h : WrB w b) : b < w.heap.size := by
  obtain ⟨cs, t, fz, h1, _⟩ := h
  exact (Array.getElem?_eq_some_iff.1 h1).1
structure EntOk (C : Ctx) (w : World) (e : Ent) : Prop where
  one : e.one = true → e.n ≤ 1
  ro : e.own = false → e.z = false → e.fam = none → e.b < C.w0.heap.size ∧ ¬ C.M e.b
  z : e.z = true → e.n = 0 ∧ e.cap = 0
  ow : e.own = true → e.z = false → e.fam = none → (C.w0.heap.size ≤ e.b ∨ C.M e.b) ∧ e.n ≤ e.cap ∧ ∃ cs fz, w.heap[e.b]? = some (.cells cs e.t fz) ∧ e.off + e.cap * e.wd ≤ cs.size ∧ ∀ k, k < cs.size → ¬ (fz.1 ≤ k ∧ k < fz.2)
  fam : ∀ f, e.fam = some f → ∀ i, i < e.n → (e.get i).sz ≠ 0 → (e.own = false → (f i).1 < C.w0.heap.size ∧ ¬ C.M (f i).1) ∧ (e.own = true → (C.w0.heap.size ≤ (f i).1 ∨ C.M (f i).1) ∧ WrB w (f i).1)
  mob : ∀ f, e.fam = some f → ∀ i, i < e.n → ∀ h g, e.get i = .mobj h g → (e.own = false → (f i).1 < C.w0.heap.size ∧ ¬ C.M (f i).1) ∧ (e.own = true → C.w0.heap.size ≤ (f i).1 ∨ C.M (f i).1) ∧ MapIs w (f i).1 h g
  row : ∀ i, i < e.n → (e.get i).wfF ∧ ntF e.fam (e.get i) ∧ match e.fam with
    | none => (e.get i).sz = e.wd ∧ Holds w e.b (e.off + i * e.wd) (e.get i)
    | some f => Holds w (f i).1 (f i).2 (e.get i)
/-- Two owned entries share no block. -/
def Ap (e x : Ent) : Prop := e.own = true → e.z = false → x.own = true → x.z = false → ∀ k, e.blk k → ¬ x.blk k
structure Sat (C : Ctx) (H : Hp) (w : World) : Prop where
  kept : Kept C w
  ents : ∀ e ∈ H, EntOk C w e
  apart : H.Pairwise Ap
theorem wr_iff {e : Ent} : e.wr = true ↔ e.own = true ∧ e.fam = none := by
  unfold Ent.wr
  cases e.own <;> cases e.fam <;> simp
theorem blk_none {e : Ent} (h : e.fam = none) {k : Nat} : e.blk k ↔ k = e.b := by
  unfold Ent.blk; rw [h]

theorem condB_iff (G : Gd) : gHolds G ↔ condB G = true := by
  induction G with
  | nil => simp [gHolds, condB]
  | cons x r ih => obtain ⟨s, bb, g⟩ := x; simp [gHolds_iff, condB, ih]
/-- What the state says of guards: each slot that is named as a guard holds that Bool, if the guards before it hold. -/
def GOk (a : Act) : Gd → Prop
  | [] => True
  | (s, _, g) :: r => (gHolds r → a.tmps[s]? = some (.bool g)) ∧ GOk a r
structure Has (N : Nat) (fr : Fr) (a : Act) : Prop where
  size : a.tmps.size = N
  slot : ∀ s e, fr.find s = some e → a.tmps[s]? = some (if condB e.gd then e.v.den else undef) ∧ (condB e.gd = true → e.v.wf) ∧ GOk a e.gd

/-! ### the heap's list -/
theorem find_mem : ∀ (H : Hp) (g : Nat) (e : Ent), H.find g = some e → e ∈ H ∧ e.g = g
  | [], g, e, h => by simp [Hp.find] at h
  | x :: r, g, e, h => by
    simp only [Hp.find_cons] at h
    split at h
    · rename_i hx
      injection h with h
      subst h
      exact ⟨List.mem_cons_self .., by simpa using hx⟩
    · obtain ⟨h1, h2⟩ := find_mem r g e h
      exact ⟨List.mem_cons_of_mem _ h1, h2⟩
/-! ### guards -/
theorem gdMem_holds {s : Nat} {bb : Bool} : ∀ (G : Gd), gdMem s bb G = true → ∃ g, (s, bb, g) ∈ G
  | [], h => by simp [gdMem] at h
  | (s', b', g) :: r, h => by
    simp only [gdMem] at h
    split at h
    · rename_i h1 h2
      have e1 : s = s' := by simpa using h1
      have e2 : bb = b' := by cases bb <;> cases b' <;> simp_all [beqB]
      subst e1 e2
      exact ⟨g, List.mem_cons_self ..⟩
    · obtain ⟨g', hg⟩ := gdMem_holds r h
      exact ⟨g', List.mem_cons_of_mem _ hg⟩
theorem GOk_mem {a : Act} : ∀ (G : Gd), GOk a G → gHolds G → ∀ s bb g, (s, bb, g) ∈ G → a.tmps[s]? = some (.bool g) ∧ g = bb
  | [], _, _, s, bb, g, h => by cases h
  | (s', b', g') :: r, hO, hG, s, bb, g, h => by
    rw [gHolds_iff] at hG
    rcases List.mem_cons.1 h with h | h
    · simp only [Prod.mk.injEq] at h
      obtain ⟨rfl, rfl, rfl⟩ := h
      exact ⟨hO.1 hG.2, hG.1⟩
    · exact GOk_mem r hO.2 hG.2 s bb g h
theorem gdSub_holds {a : Act} : ∀ (D G : Gd), gdSub D G = true → GOk a G → gHolds G → GOk a D → gHolds D
  | [], _, _, _, _, _ => trivial
  | (s, bb, g) :: r, G, h, hO, hG, hD => by
    simp only [gdSub] at h
    split at h
    · rename_i hm
      obtain ⟨g', hg'⟩ := gdMem_holds G hm
      obtain ⟨t1, e1⟩ := GOk_mem G hO hG s bb g' hg'
      have hr := gdSub_holds r G h hO hG hD.2
      have t2 := hD.1 hr
      rw [t1] at t2
      have e2 : g' = g := by injection t2 with t2; injection t2
      exact (gHolds_iff _ _ _ _).2 ⟨by rw [← e2, e1], hr⟩
    · cases h

theorem ofCell_den {v : Value} {x : SV} (h : ofCell v = some x) : x.den = v ∧ x.wf ∧ x.flat = [v] ∧ x.nt = true := by
  unfold ofCell at h
  split at h <;> first
    | (cases h; done)
    | (split at h
       · rename_i hb
         injection h with h
         subst h
         exact ⟨by simp [SV.den], Nat.le_of_ble_eq_true hb, by simp [SV.flat], rfl⟩
       · cases h)
    | (injection h with h
       subst h
       first
         | (simp [nilSlice, SV.den, SV.wf, SV.flat, SV.nt]; done)
         | (rename_i v _ _ _ _ _ _; cases v <;> simp_all [SV.den, SV.wf, SV.flat, SV.nt]))
theorem ofCells_flat : ∀ (l : List Value) (r : List SV), ofCells l = some r → SV.flatL r = l ∧ SV.wfA r
  | [], r, h => by simp [ofCells] at h; subst h; simp [SV.flatL, SV.wfA]
  | v :: l, r, h => by
    simp only [ofCells] at h
    split at h
    · rename_i x hx
      split at h
      · rename_i m hm
        injection h with h
        subst h
        obtain ⟨h1, h2, h3, hn⟩ := ofCell_den hx
        obtain ⟨h4, h5⟩ := ofCells_flat l m hm
        simp [SV.flatL, SV.wfA, h3, h4, h2, h5, hn]
      · cases h
    · cases h
theorem ofValue_den {v : Value} {x : SV} (h : ofValue v = some x) : x.den = v ∧ x.wf := by
  cases v with
  | agg cs =>
    simp only [ofValue] at h
    split at h
    · rename_i l hl
      injection h with h
      subst h
      obtain ⟨h1, h2⟩ := ofCells_flat _ _ hl
      simp [SV.den, h1, SV.wf, h2]
    · cases h
  | _ => simp only [ofValue] at h; exact ⟨(ofCell_den h).1, (ofCell_den h).2.1⟩

section
variable {N : Nat} {fr : Fr} {a : Act} {G : Gd}
theorem tmp_eval {t : Nat} {u : Value} (h : a.tmps[t]? = some u) : a.eval (.tmp t) = u := by
  simp [Act.eval, Array.getD_eq_getD_getElem?, h]
theorem ev_sound (hA : Has N fr a) (hO : GOk a G) (hG : gHolds G) {x : Operand} {v : SV} (h : ev fr G x = some v) : a.eval x = v.den ∧ v.wf := by
  cases x with
  | tmp t =>
    simp only [ev] at h
    split at h
    · rename_i e he
      split at h
      · rename_i hs
        injection h with h
        subst h
        obtain ⟨h1, h2, h3⟩ := hA.slot t e he
        have hc := (condB_iff _).1 (gdSub_holds e.gd G hs hO hG h3)
        rw [if_pos hc] at h1
        exact ⟨tmp_eval h1, h2 hc⟩
      · cases h
    · cases h
  | const v =>
    simp only [ev] at h
    exact ⟨by rw [(ofValue_den h).1]; rfl, (ofValue_den h).2⟩
  | global g =>
    simp only [ev, Option.some.injEq] at h
    subst h
    simp [Act.eval, SV.den, pathOff, PS.off, SV.wf]
  | func f =>
    simp only [ev, Option.some.injEq] at h
    subst h
    simp [Act.eval, SV.den, SV.denL, SV.wf, SV.wfL]
theorem evs_sound (hA : Has N fr a) (hO : GOk a G) (hG : gHolds G) : ∀ (xs : List Operand) (vs : List SV), evs fr G xs = some vs → xs.map a.eval = SV.denL vs ∧ ∀ v ∈ vs, v.wf
  | [], vs, h => by simp [evs] at h; subst h; simp [SV.denL]
  | x :: r, vs, h => by
    simp only [evs] at h
    split at h
    · rename_i v hv
      split at h
      · rename_i l hl
        injection h with h
        subst h
        obtain ⟨h1, h2⟩ := ev_sound hA hO hG hv
        obtain ⟨h3, h4⟩ := evs_sound hA hO hG r l hl
        refine ⟨by simp [SV.denL, h1, h3], fun u hu => ?_⟩
        rcases List.mem_cons.1 hu with hu | hu
        · rw [hu]; exact h2
        · exact h4 u hu
      · cases h
    · cases h
theorem chain_sound (hA : Has N fr a) {all : List Oper} {o : Oper} {G : Gd} (h : chain fr all o.guard = some G) :
    Region.wanted o (yielded all.toArray a.tmps) = condB G ∧ GOk a G := by
  cases hg : o.guard with
  | none =>
    rw [hg] at h
    simp only [chain, Option.some.injEq] at h
    subst h
    simp [Region.wanted, hg, condB, GOk]
  | some p =>
    obtain ⟨j, bb⟩ := p
    rw [hg] at h
    simp only [chain] at h
    split at h
    · rename_i s hs
      split at h
      · rename_i s0 gs g he
        injection h with h
        subst h
        obtain ⟨h1, h2, h3⟩ := hA.slot s _ he
        dsimp only at h1 h2 h3
        have hy : yielded all.toArray a.tmps j = if condB gs then some g else none := by
          simp only [yielded]
          have hd : (all.toArray[j]?).bind (·.dst) = some s := by
            simp only [dstOf, nth_eq] at hs
            simp only [List.getElem?_toArray]
            cases hj : all[j]? with
            | none => simp [hj] at hs
            | some o' => simp [hj] at hs; simp [hs]
          rw [hd]
          simp only [Option.bind_some, h1]
          by_cases hc : condB gs = true
          · simp [hc, SV.den]
          · simp [hc, undef]
        refine ⟨?_, ⟨fun hgs => ?_, h3⟩⟩
        · simp only [Region.wanted, hg, hy, condB]
          by_cases hc : condB gs = true
          · simp [hc]
          · simp [hc]
        · rw [if_pos ((condB_iff _).1 hgs)] at h1
          simpa [SV.den] using h1
      · cases h
    · cases h
end
end Eng
