/-
  OWN WORK. THE ENGINE, part I: make, literals of slices, append, calls.
-/
import Derived.Test.YtnibcchhhebfaaaGreatDoorEngH
import Derived.Laws.IdiomStrings
namespace Eng
open Go
set_option linter.unusedVariables false
set_option linter.unusedSimpArgs false

section
variable {P : Program} {E : Env} {N : Nat} {fr : Fr} {a : Act} {G : Gd} {H : Hp} {C : Ctx} {w w' : World} {o : Oper}

theorem madeCells_get (z : Array Value) (wd c : Nat) (hz : z.size = wd) (i k : Nat) (hi : i < c) (hk : k < wd) : (madeCells z (c * wd))[i * wd + k]? = z[k]? := by
  have hle : (i + 1) * wd ≤ c * wd := Nat.mul_le_mul_right _ hi
  rw [Nat.succ_mul] at hle
  have hlt : i * wd + k < c * wd := by omega
  have hm : (i * wd + k) % wd = k := by rw [Nat.add_comm, Nat.add_mul_mod_self_right]; exact Nat.mod_eq_of_lt hk
  have hkz : k < z.size := by omega
  simp [madeCells, hlt, hz, hm, getElem!_pos z k hkz, Array.getElem?_eq_getElem hkz]

theorem es_makeSlice (hE : EnvOk P E) (hA : Has N fr a) (hO : GOk a G) (hG : gHolds G) (hS : Sat C H w) {t : TypeId} {l c : Operand} {nx : Nat} {K : SV → Hp → Nat → Prop} (ho : o.op = .makeSlice t l c) (h : estep E fr H G nx K (.makeSlice t l c)) :
    ∃ v H' nx' w', (execOp a.eval o).run P w = .ok (.value v.den) w' ∧ K v H' nx' ∧ v.wf ∧ Sat C H' w' := by
  simp only [estep] at h
  split at h
  · rename_i kn n hn
    split at h
    · rename_i km m hm
      split at h
      · rename_i s1 s2 e z hti
        split at h
        · rename_i te hte
          obtain ⟨p1, p2, p3, p4, hK⟩ := h
          obtain ⟨t0, d, ht⟩ := hE.ty t _ hti
          obtain ⟨t1, d1, ht1⟩ := hE.ty e _ hte
          have hd : d = .slice e := ht.kind
          subst hd
          obtain ⟨n1, _⟩ := ev_sound hA hO hG hn
          obtain ⟨m1, _⟩ := ev_sound hA hO hG hm
          have hbytes : (t1.bytes : Int) * m ≤ 281474976710656 := by rw [ht1.bytes, Int.mul_comm]; omega
          have hr := run_make (P := P) w t e t1 te.zero.den ht.under ht1.info ht1.zero kn km n m p1 p2 hbytes p4
          have hl : te.zero.den.cells.size = te.size := by rw [← Array.length_toList, den_cells ht1.zwf, len_flat _ ht1.zwf, ht1.zsz]
          refine ⟨_, _, _, w.alloc (.cells (madeCells te.zero.den.cells (m.toNat * t1.size)) e), ?_, hK w.heap.size, ⟨(fun hz => by cases hz), by omega, by omega⟩, ?_⟩
          · simp only [execOp, ho, n1, m1, SV.den, Sem.run_bind, hr, Result.andThen_ok, Sem.run_pure]
            simp [pathOff]
          · rw [ht1.size]
            refine hS.alloc ⟨nx, w.heap.size, 0, te.size, m.toNat, fun _ => te.zero, true, false, m.toNat, e, false, none⟩ _ rfl rfl rfl (fun h => by cases h) rfl (Nat.le_refl _) (by simp [size_madeCells]) (fun i hi => ⟨ht1.zwf, ht1.znt, ht1.zsz, fun k hk => ?_⟩)
            dsimp only at hi hk ⊢
            rw [Nat.zero_add, madeCells_get _ te.size _ hl i k hi hk, ← den_cells ht1.zwf]
            simp
        · exact h.elim
      · exact h.elim
    · exact h.elim
  · exact h.elim

theorem flatL_replicate (z : SV) : ∀ n, SV.flatL (List.replicate n z) = (List.range n).flatMap fun _ => z.flat := by
  intro n
  rw [flatL_eq]
  have : List.replicate n z = (List.range n).map fun _ => z := by
    apply List.ext_getElem?
    intro j
    by_cases hj : j < n <;> simp [hj]
  rw [this, List.flatMap_map]
theorem range_cells (z : SV) (hw : z.wf) (n : Nat) : (Array.range (n * z.sz)).map (fun x => z.den.cells[x % z.den.cells.size]!) = (SV.flatL (List.replicate n z)).toArray := by
  have hl : z.den.cells.size = z.sz := by rw [← Array.length_toList, den_cells hw, len_flat _ hw]
  apply Array.ext'
  rw [flatL_replicate]
  have h1 : ∀ i, i < n → (fun _ : Nat => z.flat) i = z.flat := fun _ _ => rfl
  have hlen : ((List.range n).flatMap fun _ => z.flat).length = n * z.sz := len_flatMap_range (fun _ => z.flat) z.sz n (fun i _ => len_flat z hw)
  apply List.ext_getElem?
  intro j
  by_cases hj : j < n * z.sz
  · have hpos : 0 < z.sz := by rcases Nat.eq_zero_or_pos z.sz with h0 | h0; (rw [h0] at hj; omega); exact h0
    have hdiv : j / z.sz < n := (Nat.div_lt_iff_lt_mul hpos).2 hj
    have hmod : j % z.sz < z.sz := Nat.mod_lt _ hpos
    have hjj : j / z.sz * z.sz + j % z.sz = j := by rw [Nat.mul_comm]; exact Nat.div_add_mod j z.sz
    have := get_flatMap_range (fun _ => z.flat) z.sz n (fun i _ => len_flat z hw) (j / z.sz) (j % z.sz) hdiv hmod
    rw [hjj] at this
    rw [this, ← den_cells hw]
    simp [hj, hl, hmod]
  · rw [List.getElem?_eq_none (by simp; omega), List.getElem?_eq_none (by simp only [List.toList_toArray]; omega)]

theorem litAt_eq (z : SV) : ∀ (l : List SV) (i k : Nat), k < l.length → litAt i l z (i + k) = (nth l k).getD z
  | [], _, k, h => absurd h (Nat.not_lt_zero k)
  | [v], i, k, h => by
    obtain rfl : k = 0 := by simp at h; omega
    rfl
  | v :: u :: r, i, k, h => by
    show SV.ite (i + k = i) v (litAt (i + 1) (u :: r) z (i + k)) = _
    rw [ite_eq]
    cases k with
    | zero => simp [nth]
    | succ k =>
      rw [if_neg (by omega), show i + (k + 1) = (i + 1) + k by omega, litAt_eq z (u :: r) (i + 1) k (by simpa using h)]
      rfl
theorem litGet_eq {l : List SV} {z : SV} {k : Nat} (h : k < l.length) : litGet l z k = (nth l k).getD z := by
  unfold litGet
  cases Nat.ble l.length 8 with
  | true =>
    have := litAt_eq z l 0 k h
    rw [Nat.zero_add] at this
    exact this
  | false => rfl
theorem es_buildSlice (hE : EnvOk P E) (hA : Has N fr a) (hO : GOk a G) (hG : gHolds G) (hS : Sat C H w) {t : TypeId} {n : Nat} {parts : Array (Nat × Operand)} {nx : Nat} {K : SV → Hp → Nat → Prop} (ho : o.op = .buildSlice t n parts) (h : estep E fr H G nx K (.buildSlice t n parts)) :
    ∃ v H' nx' w', (execOp a.eval o).run P w = .ok (.value v.den) w' ∧ K v H' nx' ∧ v.wf ∧ Sat C H' w' := by
  simp only [estep] at h
  have hmap : (parts.map fun q => (q.1, a.eval q.2)).toList = parts.toList.map fun q => (q.1, a.eval q.2) := by simp
  split at h
  · rename_i s1 s2 e z hti
    split at h
    · rename_i te hte
      split at h
      · rename_i ps l hb
        rw [allL_iff] at h
        obtain ⟨⟨p1, pm, p2⟩, hK⟩ := h
        have p1 := Nat.le_of_ble_eq_true p1
        have pm := Nat.le_of_ble_eq_true pm
        obtain ⟨t0, d, ht⟩ := hE.ty t _ hti
        obtain ⟨t1, d1, ht1⟩ := hE.ty e _ hte
        have hd : d = .slice e := ht.kind
        subst hd
        have hzA : SV.wfA (List.replicate n te.zero) := by
          rw [wfA_iff]
          intro v hv
          rw [List.mem_replicate] at hv
          rw [hv.2]
          exact ⟨ht1.zwf, ht1.znt⟩
        obtain ⟨b1, b2, b3, b4⟩ := build_fill (place := fun i => some (i * te.size, te.size)) hA hO hG (fun k x hx => hx) parts.toList _ l ps hb p2 hzA
        have hlen : l.length = n := by rw [b3]; simp
        have hsz : SV.sz.szL l = n * te.size := by
          have q1 := len_flatL l b2
          have q2 : ∀ i, i < n → ((nth l i).getD te.zero).flat.length = te.size := fun i hi => by
            have hg : nth l i = some (l[i]'(by omega)) := by rw [nth_eq, List.getElem?_eq_getElem]
            obtain ⟨u', hu', hs'⟩ := b4 i _ (List.getElem?_eq_getElem (by omega))
            rw [hg, Option.getD_some, len_flat _ ((wfA_iff l).1 b2 _ (List.getElem_mem _)).1, hs']
            rw [List.getElem?_replicate, if_pos hi] at hu'
            injection hu' with hu'
            rw [← hu', ht1.zsz]
          have q3 := len_flatMap_range (fun k => ((nth l k).getD te.zero).flat) te.size n q2
          have q4 := flat_arr_list (fun _ => te.zero) l
          rw [hlen] at q4
          rw [q4] at q3
          omega
        refine ⟨_, _, _, w.alloc (.cells (SV.flatL l).toArray e), ?_, hK w.heap.size, ⟨(fun hz => by cases hz), Nat.le_refl _, pm⟩, ?_⟩
        · have hcells : (Array.range (n * te.size)).map (fun x => (if n * te.size = 0 then (#[] : Array Value) else te.zero.den.cells)[x % (if n * te.size = 0 then (#[] : Array Value) else te.zero.den.cells).size]!) = (SV.flatL (List.replicate n te.zero)).toArray := by
            by_cases h0 : n * te.size = 0
            · have := range_cells te.zero ht1.zwf n
              rw [ht1.zsz, h0] at this
              rw [h0, ← this]
              simp
            · simp only [if_neg h0]
              have := range_cells te.zero ht1.zwf n
              rw [ht1.zsz] at this
              exact this
          have hfill : Instr.fill (fun i => some (i * te.size, te.size)) (SV.flatL (List.replicate n te.zero)).toArray (parts.map fun q => (q.1, a.eval q.2)).toList = some (SV.flatL l).toArray := by rw [hmap]; exact b1
          have hnot : ¬ n * te.size > 16777216 := by omega
          have hrun : (Instr.buildSlice t n (parts.map fun q => (q.1, a.eval q.2))).run P w = .ok (.slice (some ⟨w.heap.size, 0, none⟩) n n) (w.alloc (.cells (SV.flatL l).toArray e)) := by
            unfold Instr.buildSlice
            by_cases h0 : n * te.size = 0
            · have hz : (Array.map (fun _ => (default : Value)) (Array.range 0)) = (SV.flatL (List.replicate n te.zero)).toArray := by
                rw [← hcells, h0]
                simp
              rw [← hz] at b1
              simp only [Sem.run_bind, run_underlying ht.under, Result.andThen_ok, ht1.sizeOf_run w, h0]
              simp [b1, newRow]
            · simp only [if_neg h0] at hcells
              simp [Sem.run_bind, run_underlying ht.under, Result.andThen_ok, ht1.sizeOf_run w, h0, hnot, zeroValue, typeInfo, ht1.info, ht1.zero, hcells, b1, newRow]
          simp only [execOp, ho, Sem.run_bind]
          rw [show (parts.map fun x => match x with | (i, x) => (i, a.eval x)) = (parts.map fun q => (q.1, a.eval q.2)) from rfl, hrun]
          simp [SV.den, pathOff]
        · refine hS.alloc ⟨nx, w.heap.size, 0, te.size, n, litGet l te.zero, true, false, n, e, false, none⟩ _ rfl rfl rfl (fun h => by cases h) rfl (Nat.le_refl _) (by simp [len_flatL l b2, hsz]) (fun i hi => ?_)
          dsimp only at hi ⊢
          rw [litGet_eq (by omega)]
          have hg : nth l i = some (l[i]'(by omega)) := by rw [nth_eq, List.getElem?_eq_getElem]
          obtain ⟨u', hu', hs'⟩ := b4 i _ (List.getElem?_eq_getElem (by omega))
          have hsi : (l[i]'(by omega)).sz = te.size := by
            rw [hs']
            rw [List.getElem?_replicate, if_pos hi] at hu'
            injection hu' with hu'
            rw [← hu', ht1.zsz]
          have hmem := (wfA_iff l).1 b2 _ (List.getElem_mem (h := by omega) (n := i) (l := l))
          rw [hg, Option.getD_some]
          refine ⟨hmem.1, hmem.2, hsi, fun k hk => ?_⟩
          rw [Nat.zero_add, List.getElem?_toArray]
          have q4 := flat_arr_list (fun _ => te.zero) l
          rw [hlen] at q4
          rw [← q4]
          have := get_flatMap_range (fun k => ((nth l k).getD te.zero).flat) te.size n (fun j hj => by
            have hg : nth l j = some (l[j]'(by omega)) := by rw [nth_eq, List.getElem?_eq_getElem]
            obtain ⟨u', hu', hs'⟩ := b4 j _ (List.getElem?_eq_getElem (by omega))
            rw [hg, Option.getD_some, len_flat _ ((wfA_iff l).1 b2 _ (List.getElem_mem _)).1, hs']
            rw [List.getElem?_replicate, if_pos hj] at hu'
            injection hu' with hu'
            rw [← hu', ht1.zsz]) i k hi hk
          rw [this, hg, Option.getD_some]
      · exact h.elim
    · exact h.elim
  · exact h.elim

/-! ### append -/
/-- What append's second operand gives: m elements, these cells. -/
structure Adds (P : Program) (t' e : TypeId) (size : Nat) (x : Value) (m : Nat) (news : List Value) (w : World) : Prop where
  len : news.length = m * size
  one : ∀ u ∈ news, u.oneCell' = true
  run : (((∃ e', P.underlying t' = some (.slice e')) ∨ P.underlying t' = some .string) ∧ (∀ w : World, (Builtin.lenOf x).run P w = .ok m w) ∧ ∀ n, (Builtin.firstCells size m x).run P { w with drawn := n } = .ok news.toArray { w with drawn := n }) ∨
    (∃ k, P.underlying t' = some (.int k) ∧ x = .int .i64 (m : Int) ∧ m ≤ 9223372036854775807 ∧ ∃ (i : TypeInfo) (z : Value), P.info? e = some i ∧ i.zero = some z ∧ m * i.bytes ≤ 281474976710656 ∧ news = (Builtin.zeroCells z.cells m).toList)

theorem append_room (t t' ty e : TypeId) (i : TypeInfo) (size : Nat) (ht : P.underlying t = some (.slice e)) (hi : P.info? e = some i) (hsz : i.size = size)
    (A : Option Addr) (n cap : Nat) (x : Value) (m : Nat) (news : List Value) (hx : Adds P t' e size x m news w) (hroom : n + m ≤ cap)
    (hst : ∀ ad, A = some ad → (storeCells (ad.add (n * size)) news).run P w = .ok () w') (hno : A = none → w' = w) :
    (Builtin.append_ #[t, t'] ty #[.slice A n cap, x]).run P w = .ok (.slice A (n + m) cap) w' := by
  rcases hx.run with ⟨h1, h3, h4⟩ | ⟨k, h1, rfl, h3, i', z, h4, h5, h7, h8⟩
  · have h4 := h4 w.drawn
    cases A with
    | none =>
      have := hno rfl
      subst this
      rcases h1 with ⟨e', h1⟩ | h1 <;>
      simp [Builtin.append_, run_underlying ht, run_underlying h1, Go.sizeOf, typeInfo, hi, hsz, h3, h4, hroom]
    | some ad =>
      rcases h1 with ⟨e', h1⟩ | h1 <;>
      simp [Builtin.append_, run_underlying ht, run_underlying h1, Go.sizeOf, typeInfo, hi, hsz, h3, h4, hroom, hst ad rfl]
  · rw [hi] at h4
    injection h4 with h4
    subst h4
    have hw : IntKind.i64.wrap (m : Int) = m := by rw [IntKind.wrap_i64]; omega
    have hb : ¬ (281474976710656 < (m : Int) * (i.bytes : Int)) := by
      have : ((m * i.bytes : Nat) : Int) ≤ 281474976710656 := by omega
      rw [Int.natCast_mul] at this
      omega
    have hm0 : ¬ ((m : Int) < 0) := by omega
    by_cases h0 : m * size = 0
    · have hn : news = [] := List.eq_nil_of_length_eq_zero (by rw [hx.len, h0])
      cases A with
      | none =>
        have := hno rfl
        subst this
        simp [Builtin.append_, run_underlying ht, run_underlying h1, Go.sizeOf, typeInfo, hi, hsz, asInt, asIntOf, hw, hb, hm0, hroom, h0]
      | some ad =>
        have := hst ad rfl
        rw [hn] at this
        simp [Builtin.append_, run_underlying ht, run_underlying h1, Go.sizeOf, typeInfo, hi, hsz, asInt, asIntOf, hw, hb, hm0, hroom, h0, this]
    · cases A with
      | none =>
        have := hno rfl
        subst this
        simp [Builtin.append_, run_underlying ht, run_underlying h1, Go.sizeOf, typeInfo, hi, hsz, asInt, asIntOf, hw, hb, hm0, hroom, h0, zeroValue, h5]
      | some ad =>
        have := hst ad rfl
        rw [h8] at this
        simp [Builtin.append_, run_underlying ht, run_underlying h1, Go.sizeOf, typeInfo, hi, hsz, asInt, asIntOf, hw, hb, hm0, hroom, h0, zeroValue, h5, this]

theorem append_grow (t t' ty e : TypeId) (i : TypeInfo) (z : Value) (size : Nat) (ht : P.underlying t = some (.slice e)) (hi : P.info? e = some i) (hz : i.zero = some z) (hsz : i.size = size)
    (A : Option Addr) (n cap : Nat) (x : Value) (m : Nat) (old news : List Value) (hx : Adds P t' e size x m news w) (hroom : ¬ n + m ≤ cap) (h63 : n + m ≤ 9223372036854775807) (hb : (n + m) * i.bytes ≤ 140737488355328)
    (hold : (Builtin.firstCells size n (.slice A n cap)).run P w.drew = .ok old.toArray w.drew) :
    (Builtin.append_ #[t, t'] ty #[.slice A n cap, x]).run P w =
      .ok (.slice (some ⟨w.heap.size, 0, none⟩) (n + m) (grownCap w (n + m) cap e)) (w.drew.alloc (.cells (old.toArray ++ news.toArray ++ Builtin.zeroCells z.cells (grownCap w (n + m) cap e - (n + m))) e)) := by
  have hfit : ¬ (281474976710656 < Builtin.nextslicecap (n + m) cap * i.bytes) := by have := growslice_fits (by omega : cap < n + m) hb; omega
  have hmax : ¬ (9223372036854775807 < ((n + m : Nat) : Int)) := by omega
  have hmax' : ¬ (9223372036854775807 < (n : Int) + (m : Int)) := by omega
  have hforced : (Question.appendCap (n + m) cap e).forced = false := rfl
  have hi64 : IntKind.i64.max = 9223372036854775807 := by decide
  rcases hx.run with ⟨h1, h3, h4⟩ | ⟨k, h1, rfl, h3, i', z', h4, h5, h7, h8⟩
  · have h4' : (Builtin.firstCells size m x).run P w.drew = .ok news.toArray w.drew := h4 (w.drawn + 1)
    rcases h1 with ⟨e', h1⟩ | h1 <;>
    simp [Builtin.append_, run_underlying ht, run_underlying h1, Go.sizeOf, typeInfo, hi, hsz, h3, hroom, hmax', hfit, hforced, hi64, hold, h4', zeroValue, hz, newRow, grownCap] <;>
    rw [← List.append_toArray, Array.append_assoc]
  · rw [hi] at h4
    injection h4 with h4
    subst h4
    rw [hz] at h5
    injection h5 with h5
    subst h5
    have hw : IntKind.i64.wrap (m : Int) = m := by rw [IntKind.wrap_i64]; omega
    have hb' : ¬ (281474976710656 < (m : Int) * (i.bytes : Int)) := by
      have : ((m * i.bytes : Nat) : Int) ≤ 281474976710656 := by omega
      rw [Int.natCast_mul] at this
      omega
    have hm0 : ¬ ((m : Int) < 0) := by omega
    by_cases h0 : m * size = 0
    · have hn : news = [] := List.eq_nil_of_length_eq_zero (by rw [hx.len, h0])
      subst hn
      simp [Builtin.append_, run_underlying ht, run_underlying h1, Go.sizeOf, typeInfo, hi, hsz, asInt, asIntOf, hw, hb', hm0, hroom, hmax', hfit, hforced, hi64, hold, h0, zeroValue, hz, newRow, grownCap]
    · simp [Builtin.append_, run_underlying ht, run_underlying h1, Go.sizeOf, typeInfo, hi, hsz, asInt, asIntOf, hw, hb', hm0, hroom, hmax', hfit, hforced, hi64, hold, h0, zeroValue, hz, newRow, grownCap, h8]

/-- The cells of m elements. -/
def rowCells (get : Nat → SV) (m : Nat) : List Value := (List.range m).flatMap fun k => (get k).flat
theorem rowCells_len {get : Nat → SV} {m wd : Nat} (h : ∀ k, k < m → (get k).wf ∧ (get k).nt = true ∧ (get k).sz = wd) : (rowCells get m).length = m * wd :=
  len_flatMap_range (fun k => (get k).flat) wd m (fun k hk => by rw [len_flat _ (h k hk).1, (h k hk).2.2])
theorem rowCells_get {get : Nat → SV} {m wd : Nat} (h : ∀ k, k < m → (get k).wf ∧ (get k).nt = true ∧ (get k).sz = wd) (i k : Nat) (hi : i < m) (hk : k < wd) : (rowCells get m)[i * wd + k]? = (get i).flat[k]? :=
  get_flatMap_range (fun k => (get k).flat) wd m (fun k hk => by rw [len_flat _ (h k hk).1, (h k hk).2.2]) i k hi hk
theorem rowCells_one {get : Nat → SV} {m wd : Nat} (h : ∀ k, k < m → (get k).wf ∧ (get k).nt = true ∧ (get k).sz = wd) : ∀ u ∈ rowCells get m, u.oneCell' = true := by
  intro u hu
  simp only [rowCells, List.mem_flatMap, List.mem_range] at hu
  obtain ⟨k, hk, hu⟩ := hu
  exact flat_oneCell _ (h k hk).1 (h k hk).2.1 u hu
theorem row_cells {get : Nat → SV} {m wd b x : Nat} (h : ∀ k, k < m → (get k).wf ∧ (get k).nt = true ∧ (get k).sz = wd) (hh : ∀ k, k < m → Holds w b (x + k * wd) (get k)) (j : Nat) (u : Value) (hj : (rowCells get m)[j]? = some u) : w.cell? ⟨b, x + j, none⟩ = some u := by
  have hlt : j < m * wd := by rw [← rowCells_len h]; exact (List.getElem?_eq_some_iff.1 hj).1
  have hpos : 0 < wd := by rcases Nat.eq_zero_or_pos wd with h0 | h0; (rw [h0] at hlt; omega); exact h0
  have hdiv : j / wd < m := (Nat.div_lt_iff_lt_mul hpos).2 hlt
  have hmod : j % wd < wd := Nat.mod_lt _ hpos
  have hjj : j / wd * wd + j % wd = j := by rw [Nat.mul_comm]; exact Nat.div_add_mod j wd
  rw [← hjj, rowCells_get h _ _ hdiv hmod] at hj
  have := hh (j / wd) hdiv (j % wd) (by rw [(h _ hdiv).2.2]; exact hmod)
  rw [Nat.add_assoc, hjj] at this
  rw [this, hj]

theorem elems_slice {g b off : Nat} {p : List PS} {wd i n c : Nat} {z : Bool} {ps : List Ob} {m : Nat} {get : Nat → SV} (h : elems H (.slice g b off p wd i n c z) = some (ps, m, get)) (hp : allTrue ps) (hS : Sat C H w) (hw : (SV.slice g b off p wd i n c z).wf) :
    m = n ∧ (∀ k, k < m → (get k).wf ∧ (get k).nt = true ∧ (get k).sz = wd) ∧ ∀ w', Sat C H w' → (Builtin.firstCells wd m (SV.slice g b off p wd i n c z).den).run P w' = .ok (rowCells get m).toArray w' := by
  simp only [elems] at h
  split at h
  · rename_i qs M get' hr
    simp only [Option.some.injEq, Prod.mk.injEq] at h
    obtain ⟨rfl, rfl, rfl⟩ := h
    obtain ⟨p1, p2⟩ := hp
    have p1 : sh i n ≤ M := p1
    rw [sh_eq] at p1
    rw [show (fun k => get' (sh i k)) = (fun k => get' (i + k)) from funext fun k => by rw [sh_eq]]
    refine ⟨rfl, ?_⟩
    cases z with
    | true =>
      obtain ⟨h1, h2⟩ := hw.1 rfl
      subst h1
      exact ⟨fun k hk => by omega, fun w' _ => by simp [SV.den, Builtin.firstCells, rowCells]⟩
    | false =>
      have key := fun (w' : World) (hS' : Sat C H w') => row_sound hr p2 hS' rfl
      have hk0 := key w hS
      refine ⟨fun k hk => ?_, fun w' hS' => ?_⟩
      · obtain ⟨a1, a2, a3, _⟩ := hk0 (i + k) (by omega)
        exact ⟨a1, a2, a3⟩
      · have hgood : ∀ k, k < n → (get' (i + k)).wf ∧ (get' (i + k)).nt = true ∧ (get' (i + k)).sz = wd := fun k hk => by
          obtain ⟨a1, a2, a3, _⟩ := hk0 (i + k) (by omega)
          exact ⟨a1, a2, a3⟩
        have := run_firstCells_some (P := P) w' wd n ⟨b, off + (pathOff p + i * wd), none⟩ n c (rowCells (fun k => get' (i + k)) n) (rowCells_len hgood) (fun j u hu => by
          rw [add_none]
          exact row_cells (w := w') hgood (fun k hk => by
            obtain ⟨_, _, _, a4⟩ := key w' hS' (i + k) (by omega)
            rw [Nat.add_mul] at a4
            rw [show off + (pathOff p + i * wd) + k * wd = off + (pathOff p + (i * wd + k * wd)) from by omega]
            exact a4) j u hu)
        simpa [SV.den] using this
  · cases h

theorem zeroCells_row {z : SV} (hw : z.wf) (m : Nat) : (Builtin.zeroCells z.den.cells m).toList = rowCells (fun _ => z) m := by
  have := range_cells z hw m
  unfold Builtin.zeroCells
  have hl : z.den.cells.size = z.sz := by rw [← Array.length_toList, den_cells hw, len_flat _ hw]
  rw [hl] at this ⊢
  rw [this, flatL_replicate]
  rfl

theorem added_sound (hE : EnvOk P E) {te : TI} {e t' : TypeId} {t1 : TypeInfo} {d1 : TypeDesc} (ht1 : TOk P e te t1 d1) {x : SV} {ps : List Ob} {m : Nat} {get : Nat → SV} (h : added E H te t' x = some (ps, m, get)) (hp : allTrue ps) (hS : Sat C H w) (hw : x.wf) (hmb : m * te.bytes ≤ 140737488355328) :
    (∀ k, k < m → (get k).wf ∧ (get k).nt = true ∧ (get k).sz = te.size) ∧ Adds P t' e te.size x.den m (rowCells get m) w := by
  unfold added at h
  split at h
  · rename_i n
    split at h
    · rename_i s1 s2 k z hti
      simp only [Option.some.injEq, Prod.mk.injEq] at h
      obtain ⟨rfl, rfl, rfl⟩ := h
      obtain ⟨p1, p2, _⟩ := hp
      have p1 : 0 ≤ n := p1
      have p2 : n ≤ 9223372036854775807 := p2
      obtain ⟨t0, d, ht⟩ := hE.ty t' _ hti
      have hd : d = .int k := ht.kind
      subst hd
      have hgood : ∀ k, k < n.toNat → ((fun _ : Nat => te.zero) k).wf ∧ ((fun _ : Nat => te.zero) k).nt = true ∧ ((fun _ : Nat => te.zero) k).sz = te.size := fun k _ => ⟨ht1.zwf, ht1.znt, ht1.zsz⟩
      refine ⟨hgood, rowCells_len hgood, rowCells_one hgood, .inr ⟨k, ht.under, by simp only [SV.den]; congr 1; omega, by omega, t1, te.zero.den, ht1.info, ht1.zero, by rw [ht1.bytes]; omega, (zeroCells_row ht1.zwf _).symm⟩⟩
    · cases h
  · rename_i g b off p wd i n c z
    split at h
    · rename_i s1 s2 e' z' hti
      split at h
      · simp only [Option.some.injEq, Prod.mk.injEq] at h
        obtain ⟨rfl, rfl, rfl⟩ := h
        obtain ⟨pz, _⟩ := hp
        have pz : z = true := pz
        subst pz
        obtain ⟨hn, hc⟩ := hw.1 rfl
        subst hn hc
        obtain ⟨t0, d, ht⟩ := hE.ty t' _ hti
        have hd : d = .slice e' := ht.kind
        subst hd
        have hz : rowCells (fun _ => te.zero) 0 = [] := rfl
        rw [hz]
        exact ⟨fun k hk => absurd hk (Nat.not_lt_zero _), by simp, (fun u hu => by cases hu), .inl ⟨.inl ⟨_, ht.under⟩, fun w => by simp [SV.den, Builtin.lenOf], fun n => by simp [SV.den, Builtin.firstCells]⟩⟩
      split at h
      · rename_i qs m' get' hel
        simp only [Option.some.injEq, Prod.mk.injEq] at h
        obtain ⟨rfl, rfl, rfl⟩ := h
        obtain ⟨p1, p2⟩ := hp
        have p1 := beqN p1
        obtain ⟨t0, d, ht⟩ := hE.ty t' _ hti
        have hd : d = .slice e' := ht.kind
        subst hd
        obtain ⟨q1, q2, q3⟩ := elems_slice (P := P) hel p2 hS hw
        rw [← p1]
        refine ⟨q2, rowCells_len q2, rowCells_one q2, .inl ⟨.inl ⟨_, ht.under⟩, fun w => by rw [q1]; simp [SV.den, Builtin.lenOf], fun n => q3 _ (hS.drawn n)⟩⟩
      · cases h
    · cases h
  · rename_i l
    split at h
    · rename_i s1 s2 z hti
      simp only [Option.some.injEq, Prod.mk.injEq] at h
      obtain ⟨rfl, rfl, rfl⟩ := h
      obtain ⟨p1, _⟩ := hp
      have p1 := beqN p1
      obtain ⟨t0, d, ht⟩ := hE.ty t' _ hti
      have hd : d = .string := ht.kind
      subst hd
      rw [p1]
      have hgood : ∀ k, k < l.length → (SV.int .u8 (l.getD k 0).toNat).wf ∧ (SV.int .u8 (l.getD k 0).toNat).nt = true ∧ (SV.int .u8 (l.getD k 0).toNat).sz = 1 := fun k _ => ⟨trivial, rfl, rfl⟩
      have hcells : (rowCells (fun k => SV.int .u8 (l.getD k 0).toNat) l.length).toArray = (ByteArray.mk l.toArray |>.extract 0 l.length).data.map fun b => Value.int .u8 b.toNat := by
        rw [ba_extract]
        apply Array.ext'
        simp only [rowCells, SV.flat, List.drop_zero, List.take_length, List.map_toArray]
        apply List.ext_getElem?
        intro j
        by_cases hj : j < l.length
        · have := get_flatMap_range (fun k => (SV.int .u8 (l.getD k 0).toNat).flat) 1 l.length (fun _ _ => rfl) j 0 hj (by omega)
          simp only [SV.flat, Nat.mul_one, Nat.add_zero] at this
          rw [this]
          simp [hj]
        · rw [List.getElem?_eq_none (by rw [len_flatMap_range _ 1 l.length (fun _ _ => rfl)]; omega), List.getElem?_eq_none (by simp; omega)]
      refine ⟨hgood, rowCells_len hgood, rowCells_one hgood, .inl ⟨.inr ht.under, fun w => by simp [SV.den, Builtin.lenOf, ba_size], fun n => ?_⟩⟩
      rw [hcells]
      simp [SV.den, Builtin.firstCells]
    · cases h
  · cases h

theorem Kept.drew (h : Kept C w) : Kept C w.drew := ⟨h.os, h.tape, h.output, h.size, h.block⟩
theorem Sat.drew (h : Sat C H w) : Sat C H w.drew := h.drawn (w.drawn + 1)

/-- The cells of the old elements, the new ones, the rest. -/
theorem joined_get {g1 g2 : Nat → SV} {n m wd : Nat} (h1 : ∀ k, k < n → (g1 k).wf ∧ (g1 k).nt = true ∧ (g1 k).sz = wd) (h2 : ∀ k, k < m → (g2 k).wf ∧ (g2 k).nt = true ∧ (g2 k).sz = wd) (r : Array Value) (i k : Nat) (hi : i < n + m) (hk : k < wd) :
    ((rowCells g1 n).toArray ++ (rowCells g2 m).toArray ++ r)[i * wd + k]? = (SV.ite (i < n) (g1 i) (g2 (i - n))).flat[k]? := by
  have l1 := rowCells_len h1
  have l2 := rowCells_len h2
  rw [ite_eq]
  by_cases hin : i < n
  · have hle : (i + 1) * wd ≤ n * wd := Nat.mul_le_mul_right _ hin
    rw [Nat.succ_mul] at hle
    rw [if_pos hin, Array.append_assoc, Array.getElem?_append_left (by simp; omega), List.getElem?_toArray, rowCells_get h1 i k hin hk]
  · have hle : (i - n + 1) * wd ≤ m * wd := Nat.mul_le_mul_right _ (by omega)
    rw [Nat.succ_mul] at hle
    have hsub : i * wd = n * wd + (i - n) * wd := by rw [← Nat.add_mul]; congr 1; omega
    rw [if_neg hin, Array.getElem?_append_left (by simp; omega), Array.getElem?_append_right (by simp; omega), List.getElem?_toArray]
    rw [show i * wd + k - (rowCells g1 n).toArray.size = (i - n) * wd + k from by simp; omega]
    exact rowCells_get h2 (i - n) k (by omega) hk
theorem ite_good {c : Prop} [Decidable c] {x y : SV} {wd : Nat} (h1 : c → x.wf ∧ x.nt = true ∧ x.sz = wd) (h2 : ¬ c → y.wf ∧ y.nt = true ∧ y.sz = wd) : (SV.ite c x y).wf ∧ (SV.ite c x y).nt = true ∧ (SV.ite c x y).sz = wd := by
  rw [ite_eq]
  by_cases hc : c
  · rw [if_pos hc]; exact h1 hc
  · rw [if_neg hc]; exact h2 hc

theorem Sat.replace_new (h : Sat C H w) {g : Nat} {e e' : Ent} (hf : H.find g = some e) (hwr : e.wr = true) (cs : Array Value) (he : e' = { e' with b := w.heap.size, off := 0, own := true, one := false, z := false, fam := none }) (hn : e'.n ≤ e'.cap) (hc : e'.cap * e'.wd ≤ cs.size)
    (hr : ∀ i, i < e'.n → (e'.get i).wf ∧ (e'.get i).nt = true ∧ (e'.get i).sz = e'.wd ∧ ∀ k, k < e'.wd → cs[i * e'.wd + k]? = (e'.get i).flat[k]?) : Sat C (H.set g e') (w.alloc (.cells cs e'.t)) := by
  rw [he]
  refine h.replace hf hwr (h.kept.alloc _) (by simp) (fun x hx k hkb hxz _ => heap_alloc_lt w _ ((h.ents x hx).lt hxz h.kept k hkb)) ?_ (fun x hx _ _ _ hxo hxz k hk hxk => ?_)
  · refine ⟨(fun q => by cases q), (fun q => by cases q), (fun q => by cases q), fun _ _ _ => ⟨.inl h.kept.size, hn, cs, (0, 0), heap_alloc_at _ _, by simpa using hc, fun k _ => by simp⟩, fun f hf => (by cases hf), fun f hf => (by cases hf), fun i hi => ?_⟩
    obtain ⟨r1, rn, r2, r3⟩ := hr i hi
    refine ⟨.inl r1, rn, r2, fun k hk => ?_⟩
    dsimp only
    rw [World.cell?_alloc_new, Nat.zero_add]
    exact r3 k (by rw [← r2]; exact hk)
  · have := (h.ents x hx).lt hxz h.kept k hxk
    have hk : k = w.heap.size := hk
    omega

theorem row_write {e : TypeId} {te : TI} {g b off wd i n cp : Nat} {z : Bool} {en : Ent} (hS : Sat C H w)
    (hsw : (SV.slice g b off [] wd i n cp z).wf) (hen : H.find g = some en) (hwr : en.wr = true) (p1 : en.b = b) (p1' : en.off = off) (p3 : en.wd = wd) (p4 : wd = te.size) (p6 : (!en.one) = true) (p7 : i + n ≤ en.n)
    {m : Nat} (hmn : m ≤ n) {gs : Nat → SV} (a1 : ∀ k, k < m → (gs k).wf ∧ (gs k).nt = true ∧ (gs k).sz = te.size) :
    ∃ w', (match (if z then none else some (⟨b, off + i * wd, none⟩ : Addr)) with | some ad => (storeCells ad (rowCells gs m)).run P w | none => .ok () w) = .ok () w' ∧
      Sat C (H.set g { en with get := fun k => SV.ite (i ≤ k ∧ k < i + m) (gs (k - i)) (en.get k) }) w' := by
  obtain ⟨hown, hfam⟩ := wr_iff.1 hwr
  obtain ⟨hm, _⟩ := find_mem H g en hen
  have hent := hS.ents en hm
  have h1 : en.one = false := by simpa using p6
  have hrow : ∀ k, k < en.n → (en.get k).wf ∧ (en.get k).nt = true ∧ (en.get k).sz = en.wd ∧ Holds w en.b (en.off + k * en.wd) (en.get k) := fun k hk => by
    have := hent.row k hk
    rw [hfam] at this
    exact ⟨wfF_wf this.1 (isM_nt this.2.1), this.2⟩
  have hgood : ∀ k, k < en.n → (SV.ite (i ≤ k ∧ k < i + m) (gs (k - i)) (en.get k)).wf ∧ (SV.ite (i ≤ k ∧ k < i + m) (gs (k - i)) (en.get k)).nt = true ∧ (SV.ite (i ≤ k ∧ k < i + m) (gs (k - i)) (en.get k)).sz = en.wd := fun k hk =>
    ite_good (fun q => by rw [p3, p4]; exact a1 (k - i) (by omega)) (fun _ => by
      obtain ⟨r1, r2, r3, _⟩ := hrow k hk
      exact ⟨r1, r2, r3⟩)
  subst p1 p1'
  have l2 := rowCells_len a1
  by_cases hz : en.z = true
  · obtain ⟨hn0, hc0⟩ := hent.z hz
    have h0 : m = 0 := by omega
    refine ⟨w, ?_, ?_⟩
    · have hnil : rowCells gs (m) = [] := by rw [h0]; rfl
      rw [hnil]
      cases z <;> simp [storeCells]
    · refine hS.replace hen hwr hS.kept (Nat.le_refl _) (fun _ _ _ _ _ _ => rfl) ?_ (fun y hy _ _ q => by simp [hz] at q)
      exact ⟨hent.one, hent.ro, hent.z, (fun _ q _ => by simp [hz] at q), (fun f hf => by rw [hfam] at hf; cases hf), (fun f hf => by rw [hfam] at hf; cases hf), fun k hk => by dsimp only at hk; omega⟩
  · have hz : en.z = false := by simpa using hz
    obtain ⟨o1, o2, cs, fz, o3, o4, o5⟩ := hent.ow hown hz hfam
    by_cases hzz : z = true
    · subst hzz
      obtain ⟨hn0, _⟩ := hsw.1 rfl
      have h0 : m = 0 := by omega
      refine ⟨w, rfl, ?_⟩
      refine hS.replace hen hwr hS.kept (Nat.le_refl _) (fun _ _ _ _ _ _ => rfl) ?_ (fun y hy hap yo yz y1 y2 k hk => hap yo yz y1 y2 k ((blk_none hfam).2 ((by unfold Ent.blk at hk; rw [show _ = none from hfam] at hk; exact hk))))
      refine ⟨hent.one, hent.ro, hent.z, hent.ow, (fun f hf => by rw [hfam] at hf; cases hf), (fun f hf => by rw [hfam] at hf; cases hf), fun k hk => ?_⟩
      dsimp only at hk ⊢
      rw [ite_eq, if_neg (by omega)]
      exact hent.row k hk
    · obtain rfl : z = false := by simpa using hzz
      have hle : (i + m) * te.size ≤ en.cap * te.size := Nat.mul_le_mul_right _ (by omega)
      rw [p3, p4] at o4
      have hfit : ∀ j, j < (rowCells gs (m)).length → en.off + i * wd + j < cs.size := fun j hj => by
        rw [l2] at hj
        rw [Nat.add_mul] at hle
        rw [p4]
        omega
      have hst := run_storeCells_cells (P := P) en.b (en.off + i * wd) (rowCells gs (m)) 0 w (fun j hj => by simp [World.cell?, o3, hfit j hj]) (fun j hj => by
        simp only [World.frozen?, o3, Nat.add_zero]
        have := o5 _ (hfit j hj)
        simpa using this) (rowCells_one a1)
      simp only [Nat.add_zero] at hst
      refine ⟨_, by simpa using hst, ?_⟩
      obtain ⟨cs', c1, c2, c3⟩ := setCells_at en.b en.t fz (rowCells gs (m)) (en.off + i * wd) w cs o3
      refine hS.replace hen hwr (hS.kept.setCells o1 _ _) (Nat.le_of_eq (setCells_size _ _ _ _).symm) (fun y hy k hkb hyz hne => setCells_block _ _ _ _ _ (hne hz)) ?_ (fun y hy hap yo yz y1 y2 k hk => hap yo yz y1 y2 k ((blk_none hfam).2 ((by unfold Ent.blk at hk; rw [show _ = none from hfam] at hk; exact hk))))
      refine ⟨hent.one, hent.ro, hent.z, fun _ _ _ => ⟨o1, o2, cs', fz, c1, by rw [c2]; dsimp only; rw [p3, p4]; exact o4, by rw [c2]; exact o5⟩, (fun f hf => by rw [hfam] at hf; cases hf), (fun f hf => by rw [hfam] at hf; cases hf), fun k hk => ?_⟩
      dsimp only at hk ⊢
      obtain ⟨q1, q2, q3⟩ := hgood k hk
      rw [hfam]
      refine ⟨.inl q1, q2, q3, fun j hj => ?_⟩
      rw [q3] at hj
      have hkc : (k + 1) * en.wd ≤ en.cap * en.wd := Nat.mul_le_mul_right _ (by omega)
      rw [Nat.succ_mul] at hkc
      have hlt : en.off + k * en.wd + j < cs.size := by rw [← p4, ← p3] at o4; omega
      simp only [World.cell?, c1, Option.isSome_none, Bool.false_eq_true, if_false]
      rw [c3, ite_eq, l2]
      rw [p3, p4] at hj hlt ⊢
      by_cases hki : i ≤ k ∧ k < i + m
      · rw [if_pos hki]
        have hsub : k * te.size = i * te.size + (k - i) * te.size := by rw [← Nat.add_mul]; congr 1; omega
        have hle3 : (k - i + 1) * te.size ≤ (m) * te.size := Nat.mul_le_mul_right _ (by omega)
        rw [Nat.succ_mul] at hle3
        rw [if_pos (by omega)]
        rw [show en.off + k * te.size + j - (en.off + i * te.size) = (k - i) * te.size + j from by omega]
        exact rowCells_get a1 (k - i) j (by omega) hj
      · rw [if_neg hki]
        obtain ⟨_, _, r2, r3⟩ := hrow k hk
        have hcell := r3 j (by rw [r2, p3, p4]; exact hj)
        simp only [World.cell?, o3, Option.isSome_none, Bool.false_eq_true, if_false] at hcell
        rw [p3, p4] at hcell
        rw [if_neg]
        · exact hcell
        · rintro ⟨g1, g2, g3⟩
          by_cases hk1 : k < i
          · have : (k + 1) * te.size ≤ i * te.size := Nat.mul_le_mul_right _ hk1
            rw [Nat.succ_mul] at this
            omega
          · have : (i + m) * te.size ≤ k * te.size := Nat.mul_le_mul_right _ (by omega)
            rw [Nat.add_mul] at this
            omega
theorem es_append (hE : EnvOk P E) (hA : Has N fr a) (hO : GOk a G) (hG : gHolds G) (hS : Sat C H w) {args : Array Operand} {tys : Array TypeId} {nx : Nat} {K : SV → Hp → Nat → Prop} (ho : o.op = .call { callee := .builtin .append, args := args, argTypes := tys }) (h : estep E fr H G nx K (.call { callee := .builtin .append, args := args, argTypes := tys })) :
    ∃ v H' nx' w', (execOp a.eval o).run P w = .ok (.value v.den) w' ∧ K v H' nx' ∧ v.wf ∧ Sat C H' w' := by
  simp only [estep] at h
  split at h
  · rename_i s x hav
    obtain ⟨f1, f2⟩ := evs_sound hA hO hG _ _ hav
    have harr : args.map a.eval = #[s.den, x.den] := by
      have : (args.map a.eval).toList = [s.den, x.den] := by simpa [SV.denL] using f1
      exact Array.ext' this
    have hsw := f2 s (by simp)
    have hxw := f2 x (by simp)
    split at h
    · rename_i t t' htys
      have htys' : tys = #[t, t'] := Array.ext' htys
      subst htys'
      have hexec : ∀ r w', (Builtin.append_ #[t, t'] o.type #[s.den, x.den]).run P w = .ok r w' → (execOp a.eval o).run P w = .ok (.value r) w' := fun r w' hr => by
        simp only [execOp, ho, Sem.run_bind, resolve, Sem.run_pure, Result.andThen_ok, invoke, builtin, harr, hr]
      split at h
      · rename_i s1 s2 e z0 hti
        split at h
        · rename_i te hte
          split at h
          · rename_i ps m add hadd
            obtain ⟨t0, d, ht⟩ := hE.ty t _ hti
            obtain ⟨t1, d1, ht1⟩ := hE.ty e _ hte
            have hd : d = .slice e := ht.kind
            subst hd
            split at h
            · rename_i g b off wd i n cp z
              split at h
              · rename_i en hen
                split at h
                · rename_i hwr
                  split at h
                  · rename_i hself
                    rw [allL_iff] at h
                    obtain ⟨⟨⟨p1, p2⟩, p3, p8, p6, pz, p4, p5, p7, p9, p11⟩, hK⟩ := h
                    have p3 := beqN p3
                    have p8 := beqN p8
                    have pz : z = false := pz
                    have p4 : i = 0 := p4
                    have p5 : n + m ≤ cp := p5
                    have p7 : n + m ≤ en.n := p7
                    subst pz p4
                    have hcp := hsw.2.2
                    obtain ⟨a1, a2⟩ := added_sound (P := P) (w := w) hE ht1 hadd p11 hS hxw p9
                    obtain ⟨w', q1, q2⟩ := row_write (P := P) (e := e) (g := g) (b := b) (off := off) (wd := wd) (i := n) (n := m) (cp := m) (z := false) hS ⟨(fun q => by cases q), Nat.le_refl _, by have := hsw.2.2; omega⟩ hen hwr p1 p2 p3 p8 p6 p7 (Nat.le_refl m) a1
                    simp only [Bool.false_eq_true, if_false] at q1
                    have hr := append_room (P := P) (w := w) (w' := w') t t' o.type e t1 te.size ht.under ht1.info ht1.size (some ⟨b, off, none⟩) n cp x.den m _ a2 p5 (fun ad h => by injection h with h; rw [← h, add_none, ← p8]; exact q1) (fun h => by cases h)
                    have hsden : (SV.slice g b off [] wd 0 n cp false).den = .slice (some ⟨b, off, none⟩) n cp := by simp [SV.den, pathOff]
                    refine ⟨_, _, _, w', (hexec _ _ (by rw [hsden]; exact hr)).trans (congrArg (fun r => Result.ok (Next.value r) _) ?_), hK, ?_, q2⟩
                    · simp [SV.den, pathOff]
                    · exact ⟨(fun q => by cases q), p5, hcp⟩
                  rw [allL_iff] at h
                  obtain ⟨hown, hfam⟩ := wr_iff.1 hwr
                  obtain ⟨⟨⟨p1, p2⟩, p3, pz, p4, p5, p6, p7, p8, p9, p10, p11⟩, hK⟩ := h
                  have p3 := beqN p3
                  have pz : z = true → en.z = true := pz
                  have p4 : i = 0 := p4
                  have p5 : n ≤ en.n := p5
                  have p6 : cp ≤ en.cap := p6
                  have p7 := beqN p7
                  have p8 := beqN p8
                  have p9 : (n + m) * te.bytes ≤ 140737488355328 := p9
                  have p10 : n + m ≤ 9223372036854775807 := p10
                  obtain ⟨hm, _⟩ := find_mem H g en hen
                  have hent := hS.ents en hm
                  have hrow : ∀ k, k < en.n → (en.get k).wf ∧ (en.get k).nt = true ∧ (en.get k).sz = en.wd ∧ Holds w en.b (en.off + k * en.wd) (en.get k) := fun k hk => by
                    have := hent.row k hk
                    rw [hfam] at this
                    exact ⟨wfF_wf this.1 (isM_nt this.2.1), this.2⟩
                  have hmb : m * te.bytes ≤ 140737488355328 := Nat.le_trans (Nat.mul_le_mul_right _ (by omega)) p9
                  obtain ⟨a1, a2⟩ := added_sound (P := P) (w := w) hE ht1 hadd p11 hS hxw hmb
                  have hold : ∀ k, k < n → (en.get k).wf ∧ (en.get k).nt = true ∧ (en.get k).sz = te.size := fun k hk => by
                    obtain ⟨r1, rn, r2, _⟩ := hrow k (by omega)
                    exact ⟨r1, rn, by rw [r2, p3, p8]⟩
                  have hgood : ∀ k, k < n + m → (SV.ite (k < n) (en.get k) (add (k - n))).wf ∧ (SV.ite (k < n) (en.get k) (add (k - n))).nt = true ∧ (SV.ite (k < n) (en.get k) (add (k - n))).sz = te.size := fun k hk =>
                    ite_good (fun h => hold k h) (fun h => a1 (k - n) (by omega))
                  subst p1 p2 p3 p4 p7
                  by_cases hz : en.z = true
                  · -- no block
                    obtain ⟨hn0, hc0⟩ := hent.z hz
                    obtain rfl : n = 0 := by omega
                    obtain rfl : cp = 0 := by omega
                    have hsden : (SV.slice g en.b en.off [] en.wd 0 0 0 z).den = .slice (if z then none else some ⟨en.b, en.off, none⟩) 0 0 := by simp [SV.den, pathOff]
                    by_cases hm0 : m = 0
                    · subst hm0
                      have hnil : rowCells add 0 = [] := rfl
                      have hr := append_room (P := P) (w := w) (w' := w) t t' o.type en.t t1 te.size ht.under ht1.info ht1.size (if z then none else some ⟨en.b, en.off, none⟩) 0 0 x.den 0 _ a2 (by omega) (fun ad h => by rw [hnil]; simp [storeCells]) (fun _ => rfl)
                      refine ⟨_, _, _, w, (hexec _ _ (by rw [hsden]; exact hr)).trans (congrArg (fun r => Result.ok (Next.value r) _) ?_), hK en.b en.off 0 (by omega) (by omega) (fun _ _ => rfl), ?_, ?_⟩
                      · cases z <;> simp [SV.den, pathOff]
                      · exact ⟨fun _ => ⟨rfl, rfl⟩, by omega, by omega⟩
                      · refine hS.replace hen hwr hS.kept (Nat.le_refl _) (fun _ _ _ _ _ _ => rfl) ?_ (fun y hy _ _ q => by simp [hz] at q)
                        exact ⟨(fun q => by cases q), (fun q => by cases q), (fun _ => ⟨rfl, rfl⟩), (fun _ q _ => by simp [hz] at q), (fun f hf => by cases hf), (fun f hf => by cases hf), (fun i hi => by simp at hi)⟩
                    · have hr := append_grow (P := P) (w := w) t t' o.type en.t t1 te.zero.den te.size ht.under ht1.info ht1.zero ht1.size (if z then none else some ⟨en.b, en.off, none⟩) 0 0 x.den m [] _ a2 (by omega) p10 (by rw [ht1.bytes]; exact p9) (by cases z with | true => simp [Builtin.firstCells] | false => exact run_firstCells_some (P := P) w.drew te.size 0 ⟨en.b, en.off, none⟩ 0 0 [] (by simp) (fun j u hu => by simp at hu))
                      have hge := grownCap_ge w (0 + m) 0 en.t
                      have hle : grownCap w (0 + m) 0 en.t ≤ 9223372036854775807 := grownCap_le_maxLen w (0 + m) 0 en.t (by unfold maxLen; omega)
                      refine ⟨_, _, _, _, (hexec _ _ (by rw [hsden]; exact hr)).trans (congrArg (fun r => Result.ok (Next.value r) _) ?_), hK w.heap.size 0 (grownCap w (0 + m) 0 en.t) hge hle (fun _ q => absurd q hm0), ?_, ?_⟩
                      · simp [SV.den, hm0, pathOff]
                      · exact ⟨(fun q => by simp [hm0] at q), hge, hle⟩
                      · have hzz : (en.z && decide (m = 0)) = false := by simp [hm0]
                        rw [hzz]
                        refine (hS.drew).replace_new hen hwr _ rfl hge ?_ (fun i hi => ?_)
                        · have l2 := rowCells_len a1
                          have hzl : te.zero.den.cells.size = te.size := by rw [← Array.length_toList, den_cells ht1.zwf, len_flat _ ht1.zwf, ht1.zsz]
                          simp only [Array.size_append, List.size_toArray, l2, size_zeroCells, hzl, List.length_nil]
                          have := Nat.mul_le_mul_right te.size hge
                          rw [Nat.sub_mul]
                          simp only [Nat.zero_add] at *
                          omega
                        · obtain ⟨q1, q2, q3⟩ := hgood i hi
                          refine ⟨q1, q2, q3, fun k hk => ?_⟩
                          have := joined_get (g1 := en.get) (n := 0) (fun k hk => by omega) a1 (Builtin.zeroCells te.zero.den.cells (grownCap w (0 + m) 0 en.t - (0 + m))) i k hi hk
                          simpa [rowCells] using this
                  · have hz : en.z = false := by simpa using hz
                    obtain rfl : z = false := by
                      cases z with
                      | false => rfl
                      | true => have := pz rfl; rw [hz] at this; cases this
                    have hzz : (en.z && decide (m = 0)) = false := by simp [hz]
                    rw [hzz] at hK
                    simp only [Bool.false_and] at hK
                    have hsden : (SV.slice g en.b en.off [] en.wd 0 n cp false).den = .slice (some ⟨en.b, en.off, none⟩) n cp := by simp [SV.den, pathOff]
                    obtain ⟨o1, o2, cs, fz, o3, o4, o5⟩ := hent.ow hown hz hfam
                    by_cases hroom : n + m ≤ cp
                    · have hle : (n + m) * en.wd ≤ en.cap * en.wd := Nat.mul_le_mul_right _ (by omega)
                      have l2 := rowCells_len a1
                      have hfit : ∀ j, j < (rowCells add m).length → en.off + n * te.size + j < cs.size := fun j hj => by
                        rw [l2] at hj
                        rw [p8, Nat.add_mul] at hle
                        rw [p8] at o4
                        omega
                      have hst := run_storeCells_cells (P := P) en.b (en.off + n * te.size) (rowCells add m) 0 w (fun j hj => by simp [World.cell?, o3, hfit j hj]) (fun j hj => by
                        simp only [World.frozen?, o3, Nat.add_zero]
                        have := o5 _ (hfit j hj)
                        simpa using this) (rowCells_one a1)
                      simp only [Nat.add_zero] at hst
                      have hr := append_room (P := P) (w := w) t t' o.type en.t t1 te.size ht.under ht1.info ht1.size (some ⟨en.b, en.off, none⟩) n cp x.den m _ a2 hroom (fun ad h => by injection h with h; rw [← h, add_none]; exact hst) (fun h => by cases h)
                      refine ⟨_, _, _, _, (hexec _ _ (by rw [hsden]; exact hr)).trans (congrArg (fun r => Result.ok (Next.value r) _) ?_), hK en.b en.off cp hroom hsw.2.2 (fun q => by rw [hz] at q; cases q), ?_, ?_⟩
                      · simp [SV.den, pathOff]
                      · exact ⟨(fun q => by cases q), hroom, hsw.2.2⟩
                      · obtain ⟨cs', c1, c2, c3⟩ := setCells_at en.b en.t fz (rowCells add m) (en.off + n * te.size) w cs o3
                        refine hS.replace hen hwr (hS.kept.setCells o1 _ _) (Nat.le_of_eq (setCells_size _ _ _ _).symm) (fun y hy k hkb hyz hne => setCells_block _ _ _ _ _ (hne hz)) ?_ (fun y hy hap _ _ yo yz k hk => hap hown hz yo yz k ((blk_none hfam).2 hk))
                        refine ⟨(fun q => by cases q), (fun q => by cases q), (fun q => by cases q), fun _ _ _ => ⟨o1, hroom, cs', fz, c1, ?_, by rw [c2]; exact o5⟩, (fun f hf => by cases hf), (fun f hf => by cases hf), fun k hk => ?_⟩
                        · dsimp only
                          rw [c2, ← p8]
                          exact Nat.le_trans (Nat.add_le_add_left (Nat.mul_le_mul_right _ p6) _) o4
                        · dsimp only at hk ⊢
                          obtain ⟨q1, q2, q3⟩ := hgood k hk
                          refine ⟨.inl q1, q2, q3, fun j hj => ?_⟩
                          rw [q3] at hj
                          have hle2 : (k + 1) * te.size ≤ (n + m) * te.size := Nat.mul_le_mul_right _ hk
                          rw [Nat.succ_mul, Nat.add_mul] at hle2
                          have hlt : en.off + k * te.size + j < cs.size := by
                            rw [p8, Nat.add_mul] at hle
                            rw [p8] at o4
                            omega
                          simp only [World.cell?, c1, Option.isSome_none, Bool.false_eq_true, if_false]
                          rw [c3, ite_eq]
                          by_cases hkn : k < n
                          · rw [if_pos hkn]
                            have hle3 : (k + 1) * te.size ≤ n * te.size := Nat.mul_le_mul_right _ hkn
                            rw [Nat.succ_mul] at hle3
                            rw [if_neg (by omega)]
                            obtain ⟨_, _, r2, r3⟩ := hrow k (by omega)
                            have := r3 j (by rw [r2, p8]; exact hj)
                            simp only [World.cell?, o3, Option.isSome_none, Bool.false_eq_true, if_false] at this
                            rw [p8] at this
                            exact this
                          · rw [if_neg hkn]
                            have hsub : k * te.size = n * te.size + (k - n) * te.size := by rw [← Nat.add_mul]; congr 1; omega
                            rw [if_pos (by rw [l2]; omega)]
                            rw [show en.off + k * te.size + j - (en.off + n * te.size) = (k - n) * te.size + j from by omega]
                            exact rowCells_get a1 (k - n) j (by omega) hj
                    · have hread : (Builtin.firstCells te.size n (.slice (some ⟨en.b, en.off, none⟩) n cp)).run P w.drew = .ok (rowCells en.get n).toArray w.drew :=
                        run_firstCells_some (P := P) w.drew te.size n ⟨en.b, en.off, none⟩ n cp (rowCells en.get n) (rowCells_len hold) (fun j u hu => by
                          rw [add_none]
                          exact row_cells (w := w.drew) hold (fun k hk => by
                            have := (hrow k (by omega)).2.2.2
                            rw [p8] at this
                            exact this) j u hu)
                      have hr := append_grow (P := P) (w := w) t t' o.type en.t t1 te.zero.den te.size ht.under ht1.info ht1.zero ht1.size (some ⟨en.b, en.off, none⟩) n cp x.den m _ _ a2 hroom p10 (by rw [ht1.bytes]; exact p9) hread
                      have hge := grownCap_ge w (n + m) cp en.t
                      have hle : grownCap w (n + m) cp en.t ≤ 9223372036854775807 := grownCap_le_maxLen w (n + m) cp en.t (by unfold maxLen; omega)
                      refine ⟨_, _, _, _, (hexec _ _ (by rw [hsden]; exact hr)).trans (congrArg (fun r => Result.ok (Next.value r) _) ?_), hK w.heap.size 0 (grownCap w (n + m) cp en.t) hge hle (fun q => by rw [hz] at q; cases q), ?_, ?_⟩
                      · simp [SV.den, pathOff]
                      · exact ⟨(fun q => by cases q), hge, hle⟩
                      · refine (hS.drew).replace_new hen hwr _ rfl hge ?_ (fun i hi => ?_)
                        · have l1 := rowCells_len hold
                          have l2 := rowCells_len a1
                          have hzl : te.zero.den.cells.size = te.size := by rw [← Array.length_toList, den_cells ht1.zwf, len_flat _ ht1.zwf, ht1.zsz]
                          simp only [Array.size_append, List.size_toArray, l1, l2, size_zeroCells, hzl, ← Nat.add_mul]
                          exact Nat.mul_le_mul_right _ (by omega)
                        · obtain ⟨q1, q2, q3⟩ := hgood i hi
                          exact ⟨q1, q2, q3, fun k hk => joined_get hold a1 _ i k hi hk⟩
                · rename_i hown
                  rw [allL_iff] at h
                  obtain ⟨⟨⟨p1, p2⟩, p8, p9, p10, p11⟩, hK⟩ := h
                  have p9 : m * te.bytes ≤ 140737488355328 := p9
                  have p10 : m ≤ 9223372036854775807 := p10
                  subst p1 p2
                  obtain ⟨a1, a2⟩ := added_sound (P := P) (w := w) hE ht1 hadd p11 hS hxw p9
                  have hsden : (SV.slice g b off [] wd i 0 0 z).den = .slice (if z then none else some ⟨b, off + i * wd, none⟩) 0 0 := by simp [SV.den, pathOff]
                  by_cases hm0 : m = 0
                  · subst hm0
                    have hnil : rowCells add 0 = [] := rfl
                    have hr := append_room (P := P) (w := w) (w' := w) t t' o.type e t1 te.size ht.under ht1.info ht1.size (if z then none else some ⟨b, off + i * wd, none⟩) 0 0 x.den 0 _ a2 (by omega) (fun ad h => by rw [hnil]; simp [storeCells]) (fun _ => rfl)
                    refine ⟨_, _, _, w, (hexec _ _ (by rw [hsden]; exact hr)).trans (congrArg (fun r => Result.ok (Next.value r) _) ?_), hK b (off + i * wd) 0 (by omega) (by omega) (fun _ => rfl), ?_, ?_⟩
                    · cases z <;> simp [SV.den, pathOff]
                    · exact ⟨fun _ => ⟨rfl, rfl⟩, by omega, by omega⟩
                    · refine ⟨hS.kept, fun y hy => ?_, List.pairwise_cons.2 ⟨fun y hy _ q => by simp at q, hS.apart⟩⟩
                      rcases List.mem_cons.1 hy with hy | hy
                      · subst hy
                        exact ⟨(fun q => by cases q), (fun q => by cases q), (fun _ => ⟨rfl, rfl⟩), (fun _ q => by simp at q), (fun f hf => by cases hf), (fun f hf => by cases hf), (fun i hi => by simp at hi)⟩
                      · exact hS.ents y hy
                  · have hr := append_grow (P := P) (w := w) t t' o.type e t1 te.zero.den te.size ht.under ht1.info ht1.zero ht1.size (if z then none else some ⟨b, off + i * wd, none⟩) 0 0 x.den m [] _ a2 (by omega) (by omega) (by rw [ht1.bytes, Nat.zero_add]; exact p9) (by cases z with | true => simp [Builtin.firstCells] | false => exact run_firstCells_some (P := P) w.drew te.size 0 ⟨b, off + i * wd, none⟩ 0 0 [] (by simp) (fun j u hu => by simp at hu))
                    have hge := grownCap_ge w (0 + m) 0 e
                    have hle : grownCap w (0 + m) 0 e ≤ 9223372036854775807 := grownCap_le_maxLen w (0 + m) 0 e (by unfold maxLen; omega)
                    rw [Nat.zero_add] at hge hr hle
                    refine ⟨_, _, _, _, (hexec _ _ (by rw [hsden]; exact hr)).trans (congrArg (fun r => Result.ok (Next.value r) _) ?_), hK w.heap.size 0 (grownCap w m 0 e) hge hle (fun q => absurd q hm0), ?_, ?_⟩
                    · simp [SV.den, hm0, pathOff]
                    · exact ⟨(fun q => by simp [hm0] at q), hge, hle⟩
                    · have hdz : decide (m = 0) = false := by simp [hm0]
                      rw [hdz]
                      refine (hS.drew).alloc ⟨nx, w.heap.size, 0, te.size, m, add, true, false, grownCap w m 0 e, e, false, none⟩ _ rfl rfl rfl (fun q => by cases q) rfl hge ?_ (fun i hi => ?_)
                      · have l2 := rowCells_len a1
                        have hzl : te.zero.den.cells.size = te.size := by rw [← Array.length_toList, den_cells ht1.zwf, len_flat _ ht1.zwf, ht1.zsz]
                        simp only [Array.size_append, List.size_toArray, l2, size_zeroCells, hzl, List.length_nil, ← Nat.add_mul, Nat.zero_add]
                        exact Nat.mul_le_mul_right _ (by omega)
                      · obtain ⟨q1, q2, q3⟩ := a1 i hi
                        refine ⟨q1, q2, q3, fun k hk => ?_⟩
                        have := joined_get (g1 := add) (n := 0) (fun k hk => by omega) a1 (Builtin.zeroCells te.zero.den.cells (grownCap w m 0 e - m)) i k (by dsimp only at hi; omega) hk
                        rw [ite_eq, if_neg (by omega), Nat.sub_zero] at this
                        simpa [rowCells] using this
              · rename_i hen
                rw [allL_iff] at h
                obtain ⟨⟨pz, p9, p10, p11⟩, hK⟩ := h
                have pz : z = true := pz
                have p9 : m * te.bytes ≤ 140737488355328 := p9
                have p10 : m ≤ 9223372036854775807 := p10
                subst pz
                obtain ⟨hn1, hc1⟩ := hsw.1 rfl
                subst hn1 hc1
                obtain ⟨a1, a2⟩ := added_sound (P := P) (w := w) hE ht1 hadd p11 hS hxw p9
                have hsden : (SV.slice g b off [] wd i 0 0 true).den = .slice none 0 0 := by simp [SV.den]
                by_cases hm0 : m = 0
                · subst hm0
                  have hr := append_room (P := P) (w := w) (w' := w) t t' o.type e t1 te.size ht.under ht1.info ht1.size none 0 0 x.den 0 _ a2 (by omega) (fun _ h => by cases h) (fun _ => rfl)
                  refine ⟨_, _, _, w, (hexec _ _ (by rw [hsden]; exact hr)).trans (congrArg (fun r => Result.ok (Next.value r) _) ?_), hK 0 0 (by omega) (by omega) (fun _ => rfl), ?_, ?_⟩
                  · simp [SV.den]
                  · exact ⟨fun _ => ⟨rfl, rfl⟩, by omega, by omega⟩
                  · refine ⟨hS.kept, fun y hy => ?_, List.pairwise_cons.2 ⟨fun y hy _ q => by simp at q, hS.apart⟩⟩
                    rcases List.mem_cons.1 hy with hy | hy
                    · subst hy
                      exact ⟨(fun q => by cases q), (fun q => by cases q), (fun _ => ⟨rfl, rfl⟩), (fun _ q => by simp at q), (fun f hf => by cases hf), (fun f hf => by cases hf), (fun i hi => by simp at hi)⟩
                    · exact hS.ents y hy
                · have hr := append_grow (P := P) (w := w) t t' o.type e t1 te.zero.den te.size ht.under ht1.info ht1.zero ht1.size none 0 0 x.den m [] _ a2 (by omega) (by omega) (by rw [ht1.bytes, Nat.zero_add]; exact p9) (by simp [Builtin.firstCells])
                  have hge := grownCap_ge w (0 + m) 0 e
                  have hle : grownCap w (0 + m) 0 e ≤ 9223372036854775807 := grownCap_le_maxLen w (0 + m) 0 e (by unfold maxLen; omega)
                  rw [Nat.zero_add] at hge hr hle
                  refine ⟨_, _, _, _, (hexec _ _ (by rw [hsden]; exact hr)).trans (congrArg (fun r => Result.ok (Next.value r) _) ?_), hK w.heap.size (grownCap w m 0 e) hge hle (fun q => absurd q hm0), ?_, ?_⟩
                  · simp [SV.den, hm0, pathOff]
                  · exact ⟨(fun q => by simp [hm0] at q), hge, hle⟩
                  · have hdz : decide (m = 0) = false := by simp [hm0]
                    rw [hdz]
                    refine (hS.drew).alloc ⟨nx, w.heap.size, 0, te.size, m, add, true, false, grownCap w m 0 e, e, false, none⟩ _ rfl rfl rfl (fun q => by cases q) rfl hge ?_ (fun i hi => ?_)
                    · have l2 := rowCells_len a1
                      have hzl : te.zero.den.cells.size = te.size := by rw [← Array.length_toList, den_cells ht1.zwf, len_flat _ ht1.zwf, ht1.zsz]
                      simp only [Array.size_append, List.size_toArray, l2, size_zeroCells, hzl, List.length_nil, ← Nat.add_mul, Nat.zero_add]
                      exact Nat.mul_le_mul_right _ (by omega)
                    · obtain ⟨q1, q2, q3⟩ := a1 i hi
                      refine ⟨q1, q2, q3, fun k hk => ?_⟩
                      have := joined_get (g1 := add) (n := 0) (fun k hk => by omega) a1 (Builtin.zeroCells te.zero.den.cells (grownCap w m 0 e - m)) i k (by dsimp only at hi; omega) hk
                      rw [ite_eq, if_neg (by omega), Nat.sub_zero] at this
                      simpa [rowCells] using this
            · exact h.elim
          · exact h.elim
        · exact h.elim
      · exact h.elim
    · exact h.elim
  · exact h.elim

/-! ### a string's bytes in new memory -/
theorem Sat.allocF (h : Sat C H w) (e : Ent) (cs : Array Value) (fz : Nat × Nat) (hb : e.b = w.heap.size) (hown : e.own = true) (hfam : e.fam = none) (h1 : e.one = true → e.n ≤ 1) (hz : e.z = false) (hn : e.n ≤ e.cap) (hc : e.off + e.cap * e.wd ≤ cs.size) (hfz : ∀ k, k < cs.size → ¬ (fz.1 ≤ k ∧ k < fz.2))
    (hr : ∀ i, i < e.n → (e.get i).wf ∧ (e.get i).nt = true ∧ (e.get i).sz = e.wd ∧ ∀ k, k < e.wd → cs[e.off + i * e.wd + k]? = (e.get i).flat[k]?) : Sat C (e :: H) (w.alloc (.cells cs e.t fz)) := by
  refine ⟨h.kept.alloc _, fun x hx => ?_, List.pairwise_cons.2 ⟨fun x hx _ _ ho hxz k hk hxk => ?_, h.apart⟩⟩
  · rcases List.mem_cons.1 hx with hx | hx
    · subst hx
      refine ⟨h1, fun ho => (by rw [hown] at ho; cases ho), fun hz' => (by rw [hz] at hz'; cases hz'), fun _ _ _ => ⟨.inl (by rw [hb]; exact h.kept.size), hn, cs, fz, by rw [hb]; exact heap_alloc_at _ _, hc, hfz⟩, fun f hf => (by rw [hfam] at hf; cases hf), fun f hf => (by rw [hfam] at hf; cases hf), fun i hi => ?_⟩
      obtain ⟨r1, rn, r2, r3⟩ := hr i hi
      refine ⟨.inl r1, ntF_nt rn, ?_⟩
      rw [hfam]
      refine ⟨r2, fun k hk => ?_⟩
      have hcell : (w.alloc (.cells cs x.t fz)).cell? ⟨w.heap.size, x.off + i * x.wd + k, none⟩ = cs[x.off + i * x.wd + k]? := by
        have hh := heap_alloc_at w (.cells cs x.t fz)
        simp only [World.cell?, hh]
        rfl
      rw [hb, hcell]
      exact r3 k (by omega)
    · cases hxz : x.z with
      | true => exact (h.ents x hx).keep (by simp) (.inl hxz)
      | false => exact (h.ents x hx).keep (by simp) (.inr fun k hk => heap_alloc_lt w _ ((h.ents x hx).lt hxz h.kept k hk))
  · have := (h.ents x hx).lt hxz h.kept k hxk
    rw [blk_none hfam] at hk
    omega
theorem es_convert (hE : EnvOk P E) (hA : Has N fr a) (hO : GOk a G) (hG : gHolds G) (hS : Sat C H w) {s d : TypeId} {x : Operand} {nx : Nat} {K : SV → Hp → Nat → Prop} (ho : o.op = .convert s d x) (h : estep E fr H G nx K (.convert s d x)) :
    ∃ v H' nx' w', (execOp a.eval o).run P w = .ok (.value v.den) w' ∧ K v H' nx' ∧ v.wf ∧ Sat C H' w' := by
  simp only [estep] at h
  split at h
  · rename_i l hx
    obtain ⟨e1, e2⟩ := ev_sound hA hO hG hx
    split at h
    · rename_i s1 s2 e z hti
      split at h
      · rename_i s3 s4 z2 hte
        split at h
        · rename_i s5 s6 z3 hsi
          obtain ⟨t0, dd, ht⟩ := hE.ty d _ hti
          obtain ⟨t1, d1, ht1⟩ := hE.ty e _ hte
          obtain ⟨t2, d2, ht2⟩ := hE.ty s _ hsi
          have hd : dd = .slice e := ht.kind
          have hd1 : d1 = .int .u8 := ht1.kind
          have hd2 : d2 = .string := ht2.kind
          subst hd hd1 hd2
          have hl : l.length ≤ 9223372036854775807 := e2
          have hr := run_bytes_of_string (P := P) w s d e ⟨l.toArray⟩ ht2.under ht.under ht1.under
          rw [ba_size] at hr
          have hge := grownCap_ge w l.length 0 e
          have hle : grownCap w l.length 0 e ≤ 9223372036854775807 := grownCap_le_maxLen w l.length 0 e (by unfold maxLen; omega)
          have hsz : (bytesRow ⟨l.toArray⟩ (grownCap w l.length 0 e)).size = grownCap w l.length 0 e := by
            simp [bytesRow, ba_size]; omega
          refine ⟨_, _, _, w.drew.alloc (.cells (bytesRow ⟨l.toArray⟩ (grownCap w l.length 0 e)) e ((bytesRow ⟨l.toArray⟩ (grownCap w l.length 0 e)).size, (bytesRow ⟨l.toArray⟩ (grownCap w l.length 0 e)).size + 1)), ?_, h w.heap.size (grownCap w l.length 0 e) hge hle, ⟨(fun q => by cases q), hge, hle⟩, ?_⟩
          · simp only [execOp, ho, e1, SV.den, Sem.run_bind, hr, Result.andThen_ok, Sem.run_pure]
            simp [pathOff]
          · refine (hS.drawn (w.drawn + 1)).allocF ⟨nx, w.heap.size, 0, 1, l.length, fun k => .int .u8 (l.getD k 0).toNat, true, false, grownCap w l.length 0 e, e, false, none⟩ _ _ rfl rfl rfl (fun q => by cases q) rfl hge (by rw [hsz]; simp) (fun k hk => by omega) (fun i hi => ⟨trivial, rfl, rfl, fun k hk => ?_⟩)
            dsimp only at hi hk ⊢
            obtain rfl : k = 0 := by omega
            simp [bytesRow, SV.flat, hi, Array.getElem?_append]
        · exact h.elim
      · exact h.elim
    · exact h.elim
  · exact h.elim
/-! ### copy -/
theorem copy_core {t t' e ty : TypeId} {s1 s2 : Nat} {z0 : SV} {te : TI} {t0 t1 : TypeInfo} {d1 : TypeDesc} (ht : TOk P t ⟨s1, s2, .slice e, z0⟩ t0 (.slice e)) (ht1 : TOk P e te t1 d1) {g b off wd i n cp : Nat} {z : Bool} {en : Ent} (hS : Sat C H w)
    (hsw : (SV.slice g b off [] wd i n cp z).wf) (hen : H.find g = some en) (hwr : en.wr = true) (p1 : en.b = b) (p1' : en.off = off) (p3 : en.wd = wd) (p4 : wd = te.size) (p6 : (!en.one) = true) (p7 : i + n ≤ en.n)
    {x : SV} {n2 : Nat} {gs : Nat → SV} (a1 : ∀ k, k < min n2 n → (gs k).wf ∧ (gs k).nt = true ∧ (gs k).sz = te.size)
    (hfc : (Builtin.firstCells te.size (min n2 n) x.den).run P w = .ok (rowCells gs (min n2 n)).toArray w) (hlen : (Builtin.lenOf x.den).run P w = .ok n2 w) :
    ∃ w', (Builtin.copy_ #[t, t'] ty #[(SV.slice g b off [] wd i n cp z).den, x.den]).run P w = .ok (.int .i64 ((min n2 n : Nat) : Int)) w' ∧
      Sat C (H.set g { en with get := fun k => SV.ite (i ≤ k ∧ k < i + min n2 n) (gs (k - i)) (en.get k) }) w' := by
  obtain ⟨hown, hfam⟩ := wr_iff.1 hwr
  have hrun : ∀ w', (match (if z then none else some (⟨b, off + i * wd, none⟩ : Addr)) with | some ad => (storeCells ad (rowCells gs (min n2 n))).run P w | none => .ok () w) = .ok () w' →
      (Builtin.copy_ #[t, t'] ty #[(SV.slice g b off [] wd i n cp z).den, x.den]).run P w = .ok (.int .i64 ((min n2 n : Nat) : Int)) w' := fun w' hw' => by
    have hmin : Nat.min n2 n = min n2 n := rfl
    cases z with
    | true =>
      simp only [if_true] at hw'
      injection hw' with _ hw'
      subst hw'
      simp [SV.den, Builtin.copy_, run_underlying ht.under, Go.sizeOf, typeInfo, ht1.info, ht1.size] at hfc hlen ⊢
      simp [hlen, hmin, hfc, goInt]
    | false =>
      simp only [Bool.false_eq_true, if_false] at hw'
      simp [SV.den, pathOff, Builtin.copy_, run_underlying ht.under, Go.sizeOf, typeInfo, ht1.info, ht1.size] at hfc hlen hw' ⊢
      simp [hlen, hmin, hfc, hw', goInt]
  obtain ⟨w', q1, q2⟩ := row_write (P := P) (e := e) hS hsw hen hwr p1 p1' p3 p4 p6 p7 (Nat.min_le_right n2 n) a1
  exact ⟨w', hrun w' q1, q2⟩
theorem str_cells (l : List UInt8) {n : Nat} (hn : n ≤ l.length) : (rowCells (fun k => SV.int .u8 (l.getD k 0).toNat) n).toArray = ((ByteArray.mk l.toArray).extract 0 n).data.map fun b => Value.int .u8 b.toNat := by
  rw [ba_extract]
  apply Array.ext'
  simp only [rowCells, SV.flat, List.drop_zero, List.map_toArray]
  apply List.ext_getElem?
  intro j
  by_cases hj : j < n
  · have := get_flatMap_range (fun k => (SV.int .u8 (l.getD k 0).toNat).flat) 1 n (fun _ _ => rfl) j 0 hj (by omega)
    simp only [SV.flat, Nat.mul_one, Nat.add_zero] at this
    rw [this]
    have : j < l.length := by omega
    simp [hj, this]
  · rw [List.getElem?_eq_none (by rw [len_flatMap_range _ 1 n (fun _ _ => rfl)]; omega), List.getElem?_eq_none (by simp; omega)]
theorem es_copy (hE : EnvOk P E) (hA : Has N fr a) (hO : GOk a G) (hG : gHolds G) (hS : Sat C H w) {args : Array Operand} {tys : Array TypeId} {nx : Nat} {K : SV → Hp → Nat → Prop} (ho : o.op = .call { callee := .builtin .copy, args := args, argTypes := tys }) (h : estep E fr H G nx K (.call { callee := .builtin .copy, args := args, argTypes := tys })) :
    ∃ v H' nx' w', (execOp a.eval o).run P w = .ok (.value v.den) w' ∧ K v H' nx' ∧ v.wf ∧ Sat C H' w' := by
  simp only [estep] at h
  split at h
  · rename_i s x hav
    obtain ⟨f1, f2⟩ := evs_sound hA hO hG _ _ hav
    have harr : args.map a.eval = #[s.den, x.den] := by
      have : (args.map a.eval).toList = [s.den, x.den] := by simpa [SV.denL] using f1
      exact Array.ext' this
    have hsw := f2 s (by simp)
    have hxw := f2 x (by simp)
    split at h
    · rename_i t t' htys
      have htys' : tys = #[t, t'] := Array.ext' htys
      subst htys'
      have hexec : ∀ r w', (Builtin.copy_ #[t, t'] o.type #[s.den, x.den]).run P w = .ok r w' → (execOp a.eval o).run P w = .ok (.value r) w' := fun r w' hr => by
        simp only [execOp, ho, Sem.run_bind, resolve, Sem.run_pure, Result.andThen_ok, invoke, builtin, harr, hr]
      split at h
      · rename_i s1 s2 e z0 hti
        split at h
        · rename_i te hte
          obtain ⟨t0, d, ht⟩ := hE.ty t _ hti
          obtain ⟨t1, d1, ht1⟩ := hE.ty e _ hte
          have hd : d = .slice e := ht.kind
          subst hd
          split at h
          · rename_i g b off wd i n cp z g2 b2 off2 p2 wd2 i2 n2 c2 z2
            split at h
            · rename_i en hen
              split at h
              · rename_i hwr
                obtain ⟨hown, hfam⟩ := wr_iff.1 hwr
                split at h
                · rename_i ps M get hr
                  rw [allL_iff] at h
                  obtain ⟨⟨⟨p1, p1'⟩, p3, p4, p5, p6, p7, p8, p9⟩, hK⟩ := h
                  have p3 := beqN p3
                  have p4 := beqN p4
                  have p5 := beqN p5
                  have p7 : i + n ≤ en.n := p7
                  have p8 : sh i2 n2 ≤ M := p8
                  have hel : elems H (.slice g2 b2 off2 p2 wd2 i2 (min n2 n) c2 z2) = some (.p (sh i2 (min n2 n) ≤ M) :: ps, min n2 n, fun k => get (sh i2 k)) := by
                    simp only [elems, hr]
                  have hps : allTrue (.p (sh i2 (min n2 n) ≤ M) :: ps) := ⟨by
                    show sh i2 (min n2 n) ≤ M
                    rw [sh_eq] at p8 ⊢
                    omega, p9⟩
                  have hxw' : (SV.slice g2 b2 off2 p2 wd2 i2 (min n2 n) c2 z2).wf := ⟨fun q => by
                    obtain ⟨q1, q2⟩ := hxw.1 q
                    exact ⟨by omega, q2⟩, by have := hxw.2.1; omega, hxw.2.2⟩
                  obtain ⟨_, a1, a2⟩ := elems_slice (P := P) hel hps hS hxw'
                  have a2 := a2 w hS
                  rw [p5] at a1 a2
                  have hfc : (Builtin.firstCells te.size (min n2 n) (SV.slice g2 b2 off2 p2 wd2 i2 n2 c2 z2).den).run P w = .ok (rowCells (fun k => get (sh i2 k)) (min n2 n)).toArray w := by
                    rw [← a2, p5]
                    simp only [SV.den]
                    cases z2 <;> rfl
                  have hlen : (Builtin.lenOf (SV.slice g2 b2 off2 p2 wd2 i2 n2 c2 z2).den).run P w = .ok n2 w := by simp [SV.den, Builtin.lenOf]
                  obtain ⟨w', c1, c2⟩ := copy_core (t' := t') (ty := o.type) ht ht1 hS hsw hen hwr p1 p1' p3 p4 p6 p7 (x := .slice g2 b2 off2 p2 wd2 i2 n2 c2 z2) a1 hfc hlen
                  exact ⟨.int .i64 ((min n2 n : Nat) : Int), _, _, w', hexec _ _ c1, hK, trivial, c2⟩
                · exact h.elim
              · exact h.elim
            · exact h.elim
          · rename_i g b off wd i n cp z l
            split at h
            · rename_i en hen
              split at h
              · rename_i hwr
                rw [allL_iff] at h
                obtain ⟨⟨⟨p1, p1'⟩, p3, p4, p5, p6, p7, _⟩, hK⟩ := h
                have p3 := beqN p3
                have p4 := beqN p4
                have p5 := beqN p5
                have a1 : ∀ k, k < min l.length n → ((fun k => SV.int .u8 (l.getD k 0).toNat : Nat → SV) k).wf ∧ ((fun k => SV.int .u8 (l.getD k 0).toNat : Nat → SV) k).nt = true ∧ ((fun k => SV.int .u8 (l.getD k 0).toNat : Nat → SV) k).sz = te.size := fun k _ => ⟨trivial, rfl, p5.symm⟩
                have hfc : (Builtin.firstCells te.size (min l.length n) (SV.str l).den).run P w = .ok (rowCells (fun k => SV.int .u8 (l.getD k 0).toNat) (min l.length n)).toArray w := by
                  rw [str_cells l (Nat.min_le_left _ _)]
                  simp [SV.den, Builtin.firstCells]
                have hlen : (Builtin.lenOf (SV.str l).den).run P w = .ok l.length w := by simp [SV.den, Builtin.lenOf, ba_size]
                obtain ⟨w', c1, c2⟩ := copy_core (t' := t') (ty := o.type) ht ht1 hS hsw hen hwr p1 p1' p3 p4 p6 p7 (x := .str l) a1 hfc hlen
                exact ⟨.int .i64 ((min l.length n : Nat) : Int), _, _, w', hexec _ _ c1, hK, trivial, c2⟩
              · exact h.elim
            · exact h.elim
          · exact h.elim
        · exact h.elim
      · exact h.elim
    · exact h.elim
  · exact h.elim

theorem es_clear (hE : EnvOk P E) (hA : Has N fr a) (hO : GOk a G) (hG : gHolds G) (hS : Sat C H w) {args : Array Operand} {tys : Array TypeId} {nx : Nat} {K : SV → Hp → Nat → Prop} (ho : o.op = .call { callee := .builtin .clear, args := args, argTypes := tys }) (h : estep E fr H G nx K (.call { callee := .builtin .clear, args := args, argTypes := tys })) :
    ∃ v H' nx' w', (execOp a.eval o).run P w = .ok (.value v.den) w' ∧ K v H' nx' ∧ v.wf ∧ Sat C H' w' := by
  simp only [estep] at h
  split at h
  · rename_i s hav
    obtain ⟨f1, f2⟩ := evs_sound hA hO hG _ _ hav
    have harr : args.map a.eval = #[s.den] := by
      have : (args.map a.eval).toList = [s.den] := by simpa [SV.denL] using f1
      exact Array.ext' this
    have hsw := f2 s (by simp)
    split at h
    · rename_i t htys
      have htys' : tys = #[t] := Array.ext' htys
      subst htys'
      have hexec : ∀ r w', (Builtin.clear_ #[t] o.type #[s.den]).run P w = .ok r w' → (execOp a.eval o).run P w = .ok (.value r) w' := fun r w' hr => by
        simp only [execOp, ho, Sem.run_bind, resolve, Sem.run_pure, Result.andThen_ok, invoke, builtin, harr, hr]
      split at h
      · rename_i s1 s2 e z0 hti
        split at h
        · rename_i te hte
          obtain ⟨t0, d, ht⟩ := hE.ty t _ hti
          obtain ⟨t1, d1, ht1⟩ := hE.ty e _ hte
          have hd : d = .slice e := ht.kind
          subst hd
          split at h
          · rename_i g b off wd i n cp z
            split at h
            · rename_i en hen
              split at h
              · rename_i hwr
                rw [allL_iff] at h
                obtain ⟨⟨⟨p1, p1'⟩, p3, p4, p6, p7, _⟩, hK⟩ := h
                have p3 := beqN p3
                have p4 := beqN p4
                have p7 : i + n ≤ en.n := p7
                obtain ⟨w', q1, q2⟩ := row_write (P := P) (e := e) hS hsw hen hwr p1 p1' p3 p4 p6 p7 (Nat.le_refl n) (gs := fun _ => te.zero) (fun k _ => ⟨ht1.zwf, ht1.znt, by rw [ht1.zsz]⟩)
                refine ⟨.tup [], _, _, w', hexec _ _ ?_, hK, trivial, q2⟩
                have hz : (zeroValue e).run P w = .ok te.zero.den w := by simp [zeroValue, typeInfo, ht1.info, ht1.zero]
                cases z with
                | true =>
                  simp only [if_true] at q1
                  injection q1 with _ q1
                  subst q1
                  simp [SV.den, SV.denL, Builtin.clear_, run_underlying ht.under]
                | false =>
                  simp only [Bool.false_eq_true, if_false] at q1
                  rw [← zeroCells_row ht1.zwf] at q1
                  simp only [SV.den, pathOff, Bool.false_eq_true, if_false, Nat.zero_add, SV.denL]
                  cases n with
                  | zero =>
                    have hnil : (Builtin.zeroCells te.zero.den.cells 0).toList = [] := by rw [zeroCells_row ht1.zwf]; rfl
                    rw [hnil] at q1
                    simp [storeCells] at q1
                    subst q1
                    simp [Builtin.clear_, run_underlying ht.under]
                  | succ n =>
                    simp [Builtin.clear_, run_underlying ht.under, hz, q1]
              · exact h.elim
            · exact h.elim
          · exact h.elim
        · exact h.elim
      · exact h.elim
    · exact h.elim
  · exact h.elim

end
end Eng
