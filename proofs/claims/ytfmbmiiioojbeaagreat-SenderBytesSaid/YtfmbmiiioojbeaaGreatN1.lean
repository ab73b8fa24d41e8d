/-
  OWN WORK. Sender: maps.Keys, maps.Values of its map; slices.Collect: the range over a function, shown by hand.
-/
import Derived.Sort.MapsRangeIn
import Derived.RangeFuncGives
import Derived.RangeFuncLeaves
import Derived.WalkKit
import Derived.OwnWalkIn
import Derived.TacticsInMore
import Derived.RegionIn
import Derived.LoopNIn
import Derived.LoopIn
import Derived.Maps.AppendAt
import Derived.Shelf.Abstract
import Derived.Test.YtfmbmiiioojbeaaGreatLS
namespace Rc
open Go Go.Proofs Eng Go.RowKit Go.Maps Go.Shelf
set_option linter.unusedVariables false
set_option linter.unusedSimpArgs false
set_option maxRecDepth 100000
set_option maxHeartbeats 4000000

theorem nodup_len : ∀ (N : Nat) (l : List Int), l.Nodup → (∀ x ∈ l, 0 ≤ x ∧ x < (N : Int)) → l.length ≤ N
  | 0, l, _, h => by
    cases l with
    | nil => exact Nat.le_refl _
    | cons a r => have := h a (List.mem_cons_self ..); omega
  | N + 1, l, hd, h => by
    by_cases hm : (N : Int) ∈ l
    · have h1 := nodup_len N (l.erase (N : Int)) (hd.erase _) (fun x hx => by
        have hx' := List.mem_of_mem_erase hx
        have h2 := h x hx'
        have hne : x ≠ N := ((List.Nodup.mem_erase_iff hd).1 hx).1
        omega)
      rw [List.length_erase_of_mem hm] at h1
      omega
    · exact Nat.le_succ_of_le (nodup_len N l hd fun x hx => by
        have h2 := h x hx
        have hne : x ≠ N := fun q => hm (q ▸ hx)
        omega)
theorem wpIn_op {F : Fence} {n : Nat} {P : Program} {ops : Array Oper} {Q : Exit → Act → World → Prop} {o : Oper} {op : Op} {rest : List Oper} {a : Act} {w w' : World} {v : Value} (hg : o.guard = none) (ho : o.op = op) (hn : (match op with | .range _ _ => true | .next _ _ => true | _ => false) = true)
    (hrun : (execOp a.eval o).run P w = .ok (.value v) w') (h : wpListIn F n P ops Q rest (a.put o.dst v) w') : wpListIn F n P ops Q (o :: rest) a w := by
  refine wpListIn_plain hg fun K' hK' => ?_
  unfold Oper.wpIn
  refine ⟨?_, ?_⟩
  · cases op <;> simp at hn <;> simp [Oper.about, ho]
  · rw [Oper.semAt_plain F _ _ (by cases op <;> simp at hn <;> (rw [ho]; intro c hc; cases hc)), hrun]
    exact hK' _ _ h
/-! ### what a slice holds, round by round -/
theorem ownsRow_abides {W W' : World} {row : Option Nat} {base : Nat} {e : TypeId} {size : Nat} {v : Value} {k : Nat} {xs : List Value} (h : W.ownsRow base e size v k xs) (hg : W.grownBy W' row)
    (hrow : ∀ r, row = some r → ∃ o : Obj, W.heap[r]? = some o ∧ o.isWalk = true) : W'.ownsRow base e size v k xs := by
  refine h.kept hg ?_
  rcases h.2 with ⟨rfl, _⟩ | ⟨g, cap, cur, rfl, _, hgb, _⟩
  · exact .inl rfl
  · refine .inr fun e' => ?_
    obtain ⟨o, ho, hw⟩ := hrow g (by simpa [Value.ownBlock] using e'.symm)
    rw [hgb] at ho; cases ho; cases hw
theorem grownBy_putObj (W : World) (l : Nat) (o : Obj) : W.grownBy (W.putObj l o) (some l) :=
  ⟨rfl, rfl, rfl, by simp, fun k _ hk => World.putObj_heap_other (fun e => hk (by rw [e]))⟩
theorem grownBy_setCell0 (W : World) (b : Nat) (v : Value) : W.grownBy (W.setCell ⟨b, 0, none⟩ v) (some b) :=
  ⟨rfl, rfl, rfl, (KeepsWalks.setCell W _ v).size, fun k _ hk => Below.heap_setCell _ _ _ k (fun e => hk (by rw [e]))⟩
theorem ownsRow_ne {W : World} {base : Nat} {e : TypeId} {size : Nat} {v : Value} {k : Nat} {xs : List Value} (h : W.ownsRow base e size v k xs) {j : Nat} {o : Obj} (hj : W.heap[j]? = some o) (hno : ∀ cur, o ≠ .cells cur e (0, 0)) :
    v.ownBlock = none ∨ v.ownBlock ≠ some j := by
  rcases h.2 with ⟨rfl, _⟩ | ⟨g, cap, cur, rfl, _, hgb, _⟩
  · exact .inl rfl
  · refine .inr fun e' => ?_
    have : g = j := by simpa [Value.ownBlock] using e'
    subst this; rw [hgb] at hj; cases hj; exact hno cur rfl
theorem cell_of_box {W : World} {B : Nat} {v : Value} {t : TypeId} (h : W.heap[B]? = some (.cells #[v] t (0, 0))) : W.cell? ⟨B, 0, none⟩ = some v ∧ W.frozen? ⟨B, 0, none⟩ = false := by
  constructor <;> simp [World.cell?, World.frozen?, h]
theorem heap_setCell_box {W : World} {B : Nat} {v : Value} {t : TypeId} (v' : Value) (h : W.heap[B]? = some (.cells #[v] t (0, 0))) : (W.setCell ⟨B, 0, none⟩ v').heap[B]? = some (.cells #[v'] t (0, 0)) := by
  obtain ⟨hlt, hk⟩ := Array.getElem?_eq_some_iff.1 h
  show (W.heap.modify B _)[B]? = _
  rw [Array.getElem?_eq_getElem (by rw [Array.size_modify]; exact hlt), Array.getElem_modify_self, hk]
  rfl
theorem ownsRow_not_walk {W : World} {base : Nat} {e : TypeId} {size : Nat} {v : Value} {k : Nat} {xs : List Value} (h : W.ownsRow base e size v k xs) : ∀ (j : Nat) (o : Obj), v.ownBlock = some j → W.heap[j]? = some o → o.isWalk = false := by
  intro j o hj ho
  rcases h.2 with ⟨rfl, _⟩ | ⟨g, cap, cur, rfl, _, hgb, _⟩
  · simp [Value.ownBlock] at hj
  · have : g = j := by simpa [Value.ownBlock] using hj
    subst this; rw [hgb] at ho; cases ho; rfl
/-- A key that the map has. -/
abbrev KeyOf (h : Int → Bool) := { x : Int // h x = true }
/-- All keys, each once. -/
def AllKeys (h : Int → Bool) (ks : List (KeyOf h)) : Prop := (ks.map (·.1)).Nodup ∧ ∀ x, h x = true → x ∈ ks.map (·.1)
/-- A range over a map under way. -/
structure Rng (mb r clock : Nat) (es : Array MapEntry) (h : Int → Bool) (ks : List (KeyOf h)) (seen : Array Nat) (W : World) : Prop where
  m : W.heap[mb]? = some (.map es clock)
  it : ∃ c0, W.heap[r]? = some (.mapIter (some mb) clock seen c0) ∧ clock ≤ c0
  seen : ∀ e ∈ es.toList, seen.contains e.born = true ↔ ∃ k ∈ ks, e.key = .int .i64 k.1
  nd : (ks.map (·.1)).Nodup
theorem Rng.walks {mb r clock : Nat} {es : Array MapEntry} {h : Int → Bool} {ks : List (KeyOf h)} {seen : Array Nat} {W W' : World} (q : Rng mb r clock es h ks seen W) (hk : KeepsWalks W W') : Rng mb r clock es h ks seen W' := by
  obtain ⟨c0, i1, i2⟩ := q.it
  exact ⟨hk.same mb _ q.m rfl, ⟨c0, hk.same r _ i1 rfl, i2⟩, q.seen, q.nd⟩
theorem Rng.left {mb r clock : Nat} {es : Array MapEntry} {h : Int → Bool} {ks : List (KeyOf h)} {seen : Array Nat} {W : World} (q : Rng mb r clock es h ks seen W) : W.rangeLeft mb r = (leftOf es seen).size := by
  obtain ⟨c0, i1, i2⟩ := q.it
  simp [World.rangeLeft, q.m, i1]
theorem keys_few {es : Array MapEntry} {clock : Nat} {h : Int → Bool} {g : Int → SV} {N : Nat} (hN : ∀ x, h x = true → 0 ≤ x ∧ x < (N : Int)) (ks : List (KeyOf h)) (hk : (ks.map (·.1)).Nodup) : ks.length ≤ N := by
  have := nodup_len N (ks.map (·.1)) hk (fun x hx => by
    obtain ⟨k, _, rfl⟩ := List.mem_map.1 hx
    exact hN k.1 k.2)
  simpa using this

theorem keys_gives {F : Fence} {n : Nat} (hf : F.fn 77) (hro : F.round = none) (hn : 1 ≤ n) {Bm mb : Nat} {h : Int → Bool} {g : Int → SV} {N : Nat} (hN : ∀ x, h x = true → 0 ≤ x ∧ x < (N : Int)) {w : World} (hBm : Bm < w.heap.size)
    (hm : w.cell? ⟨Bm, 0, none⟩ = some (.map (some mb))) (hM : MapIs w mb h g) :
    SeqGives F n Tryz.prog 77 #[.pointer (some ⟨Bm, 0, none⟩)] (fun x : KeyOf h => Value.int .i64 x.1) (AllKeys h) (N + 1) w := by
  intro l J W hW hJ hY h0
  have hm' : W.cell? ⟨Bm, 0, none⟩ = some (.map (some mb)) := (hW.cell (p := ⟨Bm, 0, none⟩) hBm).trans hm
  have hM' : MapIs W mb h g := hM.same (hW.block mb hM.lt)
  clear hm
  obtain ⟨es, clock, m1, m2, m3, m4⟩ := hM'
  obtain ⟨st1, st2, st3⟩ := (MapKept.stamped_iff es clock).1 m2
  have hlt : mb < W.heap.size := (Array.getElem?_eq_some_iff.1 m1).1
  have hrng := run_range_map (P := Tryz.prog) W 66 3 75 mb es clock Tryz.underlying66 m1
  have hal : ∀ k, k < W.heap.size → (W.alloc (.mapIter (some mb) clock #[] clock)).heap[k]? = W.heap[k]? := fun k hk => by
    show (W.heap.push _)[k]? = _
    rw [Array.getElem?_push_lt hk, Array.getElem?_eq_getElem hk]
  have hR0 : Rng mb W.heap.size clock es h [] #[] (W.alloc (.mapIter (some mb) clock #[] clock)) := ⟨(hal mb hlt).trans m1, ⟨clock, heap_alloc_new W _, Nat.le_refl _⟩, fun e he => by simp, List.nodup_nil⟩
  have hJ0 : J [] (W.alloc (.mapIter (some mb) clock #[] clock)) := hJ [] W _ none h0 ⟨rfl, rfl, rfl, by simp, fun k hk _ => hal k hk⟩ (fun r e => by cases e)
  show CallsIn F n Tryz.prog 77 #[.func (.yield l) #[] #[], .pointer (some ⟨Bm, 0, none⟩)] W _
  refine callsIn_of_wp Tryz.func77 rfl hf ?_ hro
  simp only [Tryz.ntmps77, List.size_toArray, List.length_cons, List.length_nil, Nat.reduceAdd, Nat.reduceSub, Array.replicate_succ, Array.replicate_zero, List.push_toArray, List.append_toArray, List.nil_append, List.cons_append]
  gi_wp2_with (first
    | (gi_at_range; refine wpIn_op rfl rfl rfl (v := .pointer (some ⟨W.heap.size, 0, none⟩)) (w' := W.alloc (.mapIter (some mb) clock #[] clock)) (by simp [execOp, Act.eval, hrng, Result.andThen]) ?_)
    | gi_in)
  try go_frame
  gi_loopw [3] (fun _ wr => ∃ (ks : List (KeyOf h)) (seen : Array Nat), Rng mb W.heap.size clock es h ks seen wr ∧ J ks wr) (fun _ wr => wr.rangeLeft mb W.heap.size)
  case atStart => exact ⟨[], #[], hR0, hJ0⟩
  case round =>
    obtain ⟨ks, seen, hR, hJs⟩ := hrel
    obtain ⟨c0, it, itc⟩ := hR.it
    have hlen := keys_few (es := es) (clock := clock) (g := g) hN ks hR.nd
    rcases run_next_at (P := Tryz.prog) wr 0 W.heap.size mb clock c0 seen es clock it hR.m st1 itc with ⟨hz, hrun⟩ | ⟨e, he, w1, hal1, hrun⟩
    · gi_wp2_with (first
        | (gi_at_next; refine wpIn_op rfl rfl rfl (v := .tuple #[.bool false]) (w' := wr) (by simp [execOp, Act.eval, hrun, Result.andThen]) ?_)
        | gi_in)
      go_end0
      refine ⟨⟨_, rfl⟩, ks, ⟨hR.nd, fun k hk => ?_⟩, hJs⟩
      obtain ⟨_, _, _, e, he, hek⟩ := m4 k hk
      obtain ⟨k', hk', hek'⟩ := (hR.seen e he).1 (all_seen es seen hz e he)
      rw [hek] at hek'
      injection hek' with _ q
      rw [q]; exact List.mem_map_of_mem hk'
    · obtain ⟨hem, hes⟩ := mem_left he
      obtain ⟨k, ek, hhk, ev⟩ := m3 e hem
      have hr1 : w1.heap[W.heap.size]? = some (.mapIter (some mb) clock seen c0) := by rcases hal1 with rfl | rfl <;> exact it
      have hset := MapKept.heap_set (o' := .mapIter (some mb) clock (seen.push e.born) clock) hr1
      have hg2 : wr.grownBy (ChangeMaps.setBlock w1 W.heap.size (.mapIter (some mb) clock (seen.push e.born) clock)) (some W.heap.size) := by
        rcases hal1 with rfl | rfl <;> exact ⟨rfl, rfl, rfl, by simp [ChangeMaps.setBlock], fun i _ hi => hset.2 i (fun e1 => hi (by rw [e1]))⟩
      have hJ2 : J ks (ChangeMaps.setBlock w1 W.heap.size (.mapIter (some mb) clock (seen.push e.born) clock)) := hJ ks wr _ (some W.heap.size) hJs hg2 (fun r e => by cases e; exact ⟨Nat.le_refl _, _, it, rfl⟩)
      have hr2 : (ChangeMaps.setBlock w1 W.heap.size (.mapIter (some mb) clock (seen.push e.born) clock)).heap[W.heap.size]? = some (.mapIter (some mb) clock (seen.push e.born) clock) := hset.1
      have hm2 : (ChangeMaps.setBlock w1 W.heap.size (.mapIter (some mb) clock (seen.push e.born) clock)).heap[mb]? = some (.map es clock) := (hset.2 mb (by omega)).trans (by rcases hal1 with rfl | rfl <;> exact hR.m)
      generalize ChangeMaps.setBlock w1 W.heap.size (.mapIter (some mb) clock (seen.push e.born) clock) = w2 at *
      clear hset hr1 hal1
      have hent := run_entry_at (P := Tryz.prog) w2 W.heap.size mb clock seen es clock e hr2 hm2 hem st2
      have hknew : ∀ k' ∈ ks, k'.1 ≠ k := fun k' hk' q => by
        have := (hR.seen e hem).2 ⟨k', hk', by rw [ek, q]⟩
        rw [hes] at this
        cases this
      have hR2 : Rng mb W.heap.size clock es h (ks ++ [⟨k, hhk⟩]) (seen.push e.born) w2 := by
        refine ⟨hm2, ⟨clock, hr2, Nat.le_refl _⟩, fun e' he' => ?_, ?_⟩
        · rw [contains_push, Bool.or_eq_true, hR.seen e' he']
          constructor
          · rintro (⟨k', hk', q⟩ | q)
            · exact ⟨k', List.mem_append_left _ hk', q⟩
            · have q : e'.born = e.born := by simpa using q
              have := born_inj st2 he' hem q
              exact ⟨⟨k, hhk⟩, by simp, by rw [this]; exact ek⟩
          · rintro ⟨k', hk', q⟩
            rcases List.mem_append.1 hk' with hk' | hk'
            · exact .inl ⟨k', hk', q⟩
            · refine .inr ?_
              have hk' : k' = ⟨k, hhk⟩ := by simpa using hk'
              have := entry_eq_of_key st3 he' hem (by rw [q, ek, hk'])
              simp [this]
        · rw [List.map_append]
          refine List.nodup_append.2 ⟨hR.nd, by simp, fun a ha b hb q => ?_⟩
          obtain ⟨k', hk', rfl⟩ := List.mem_map.1 ha
          have hb : b = k := by simpa using hb
          exact hknew k' hk' (q.trans hb)
      obtain ⟨fn, tmps, assign, body, hy, hRd⟩ := hY ks ⟨k, hhk⟩ w2 hJ2 (by omega)
      rw [ek, ev] at hrun hent
      have hshr := left_shrinks es seen e he
      dsimp only at hy
      generalize (g k).den = gk at *
      gi_wp2_with (first
        | (gi_at_next; refine wpIn_op rfl rfl rfl (v := .tuple #[.bool true, .int .i64 k, gk]) (w' := w2) (by simp [execOp, Act.eval, hrun, Result.andThen]) ?_)
        | gi_in)
      refine hRd.mono ?_
      rintro e W3 ⟨rfl, hJ3, hk3⟩
      gi_wp2
      have hR3 := hR2.walks hk3
      go_roundw
      case rel => exact ⟨_, _, hR3, hJ3⟩
      case measure => rw [hR3.left, hR.left]; exact hshr

theorem vals_gives {F : Fence} {n : Nat} (hf : F.fn 113) (hro : F.round = none) (hn : 1 ≤ n) {Bm mb : Nat} {h : Int → Bool} {g : Int → SV} {N : Nat} (hN : ∀ x, h x = true → 0 ≤ x ∧ x < (N : Int)) {w : World} (hBm : Bm < w.heap.size)
    (hm : w.cell? ⟨Bm, 0, none⟩ = some (.map (some mb))) (hM : MapIs w mb h g) :
    SeqGives F n Tryz.prog 113 #[.pointer (some ⟨Bm, 0, none⟩)] (fun x : KeyOf h => (g x.1).den) (AllKeys h) (N + 1) w := by
  intro l J W hW hJ hY h0
  have hm' : W.cell? ⟨Bm, 0, none⟩ = some (.map (some mb)) := (hW.cell (p := ⟨Bm, 0, none⟩) hBm).trans hm
  have hM' : MapIs W mb h g := hM.same (hW.block mb hM.lt)
  clear hm
  obtain ⟨es, clock, m1, m2, m3, m4⟩ := hM'
  obtain ⟨st1, st2, st3⟩ := (MapKept.stamped_iff es clock).1 m2
  have hlt : mb < W.heap.size := (Array.getElem?_eq_some_iff.1 m1).1
  have hrng := run_range_map (P := Tryz.prog) W 66 3 75 mb es clock Tryz.underlying66 m1
  have hal : ∀ k, k < W.heap.size → (W.alloc (.mapIter (some mb) clock #[] clock)).heap[k]? = W.heap[k]? := fun k hk => by
    show (W.heap.push _)[k]? = _
    rw [Array.getElem?_push_lt hk, Array.getElem?_eq_getElem hk]
  have hR0 : Rng mb W.heap.size clock es h [] #[] (W.alloc (.mapIter (some mb) clock #[] clock)) := ⟨(hal mb hlt).trans m1, ⟨clock, heap_alloc_new W _, Nat.le_refl _⟩, fun e he => by simp, List.nodup_nil⟩
  have hJ0 : J [] (W.alloc (.mapIter (some mb) clock #[] clock)) := hJ [] W _ none h0 ⟨rfl, rfl, rfl, by simp, fun k hk _ => hal k hk⟩ (fun r e => by cases e)
  show CallsIn F n Tryz.prog 113 #[.func (.yield l) #[] #[], .pointer (some ⟨Bm, 0, none⟩)] W _
  refine callsIn_of_wp Tryz.func113 rfl hf ?_ hro
  simp only [Tryz.ntmps113, List.size_toArray, List.length_cons, List.length_nil, Nat.reduceAdd, Nat.reduceSub, Array.replicate_succ, Array.replicate_zero, List.push_toArray, List.append_toArray, List.nil_append, List.cons_append]
  gi_wp2_with (first
    | (gi_at_range; refine wpIn_op rfl rfl rfl (v := .pointer (some ⟨W.heap.size, 0, none⟩)) (w' := W.alloc (.mapIter (some mb) clock #[] clock)) (by simp [execOp, Act.eval, hrng, Result.andThen]) ?_)
    | gi_in)
  try go_frame
  gi_loopw [4] (fun _ wr => ∃ (ks : List (KeyOf h)) (seen : Array Nat), Rng mb W.heap.size clock es h ks seen wr ∧ J ks wr) (fun _ wr => wr.rangeLeft mb W.heap.size)
  case atStart => exact ⟨[], #[], hR0, hJ0⟩
  case round =>
    obtain ⟨ks, seen, hR, hJs⟩ := hrel
    obtain ⟨c0, it, itc⟩ := hR.it
    have hlen := keys_few (es := es) (clock := clock) (g := g) hN ks hR.nd
    rcases run_next_at (P := Tryz.prog) wr 0 W.heap.size mb clock c0 seen es clock it hR.m st1 itc with ⟨hz, hrun⟩ | ⟨e, he, w1, hal1, hrun⟩
    · gi_wp2_with (first
        | (gi_at_next; refine wpIn_op rfl rfl rfl (v := .tuple #[.bool false]) (w' := wr) (by simp [execOp, Act.eval, hrun, Result.andThen]) ?_)
        | gi_in)
      go_end0
      refine ⟨⟨_, rfl⟩, ks, ⟨hR.nd, fun k hk => ?_⟩, hJs⟩
      obtain ⟨_, _, _, e, he, hek⟩ := m4 k hk
      obtain ⟨k', hk', hek'⟩ := (hR.seen e he).1 (all_seen es seen hz e he)
      rw [hek] at hek'
      injection hek' with _ q
      rw [q]; exact List.mem_map_of_mem hk'
    · obtain ⟨hem, hes⟩ := mem_left he
      obtain ⟨k, ek, hhk, ev⟩ := m3 e hem
      have hr1 : w1.heap[W.heap.size]? = some (.mapIter (some mb) clock seen c0) := by rcases hal1 with rfl | rfl <;> exact it
      have hset := MapKept.heap_set (o' := .mapIter (some mb) clock (seen.push e.born) clock) hr1
      have hg2 : wr.grownBy (ChangeMaps.setBlock w1 W.heap.size (.mapIter (some mb) clock (seen.push e.born) clock)) (some W.heap.size) := by
        rcases hal1 with rfl | rfl <;> exact ⟨rfl, rfl, rfl, by simp [ChangeMaps.setBlock], fun i _ hi => hset.2 i (fun e1 => hi (by rw [e1]))⟩
      have hJ2 : J ks (ChangeMaps.setBlock w1 W.heap.size (.mapIter (some mb) clock (seen.push e.born) clock)) := hJ ks wr _ (some W.heap.size) hJs hg2 (fun r e => by cases e; exact ⟨Nat.le_refl _, _, it, rfl⟩)
      have hr2 : (ChangeMaps.setBlock w1 W.heap.size (.mapIter (some mb) clock (seen.push e.born) clock)).heap[W.heap.size]? = some (.mapIter (some mb) clock (seen.push e.born) clock) := hset.1
      have hm2 : (ChangeMaps.setBlock w1 W.heap.size (.mapIter (some mb) clock (seen.push e.born) clock)).heap[mb]? = some (.map es clock) := (hset.2 mb (by omega)).trans (by rcases hal1 with rfl | rfl <;> exact hR.m)
      generalize ChangeMaps.setBlock w1 W.heap.size (.mapIter (some mb) clock (seen.push e.born) clock) = w2 at *
      clear hset hr1 hal1
      have hent := run_entry_at (P := Tryz.prog) w2 W.heap.size mb clock seen es clock e hr2 hm2 hem st2
      have hknew : ∀ k' ∈ ks, k'.1 ≠ k := fun k' hk' q => by
        have := (hR.seen e hem).2 ⟨k', hk', by rw [ek, q]⟩
        rw [hes] at this
        cases this
      have hR2 : Rng mb W.heap.size clock es h (ks ++ [⟨k, hhk⟩]) (seen.push e.born) w2 := by
        refine ⟨hm2, ⟨clock, hr2, Nat.le_refl _⟩, fun e' he' => ?_, ?_⟩
        · rw [contains_push, Bool.or_eq_true, hR.seen e' he']
          constructor
          · rintro (⟨k', hk', q⟩ | q)
            · exact ⟨k', List.mem_append_left _ hk', q⟩
            · have q : e'.born = e.born := by simpa using q
              have := born_inj st2 he' hem q
              exact ⟨⟨k, hhk⟩, by simp, by rw [this]; exact ek⟩
          · rintro ⟨k', hk', q⟩
            rcases List.mem_append.1 hk' with hk' | hk'
            · exact .inl ⟨k', hk', q⟩
            · refine .inr ?_
              have hk' : k' = ⟨k, hhk⟩ := by simpa using hk'
              have := entry_eq_of_key st3 he' hem (by rw [q, ek, hk'])
              simp [this]
        · rw [List.map_append]
          refine List.nodup_append.2 ⟨hR.nd, by simp, fun a ha b hb q => ?_⟩
          obtain ⟨k', hk', rfl⟩ := List.mem_map.1 ha
          have hb : b = k := by simpa using hb
          exact hknew k' hk' (q.trans hb)
      obtain ⟨fn, tmps, assign, body, hy, hRd⟩ := hY ks ⟨k, hhk⟩ w2 hJ2 (by omega)
      rw [ek, ev] at hrun hent
      have hshr := left_shrinks es seen e he
      dsimp only at hy
      generalize (g k).den = gk at *
      gi_wp2_with (first
        | (gi_at_next; refine wpIn_op rfl rfl rfl (v := .tuple #[.bool true, .int .i64 k, gk]) (w' := w2) (by simp [execOp, Act.eval, hrun, Result.andThen]) ?_)
        | gi_in)
      refine hRd.mono ?_
      rintro e W3 ⟨rfl, hJ3, hk3⟩
      gi_wp2
      have hR3 := hR2.walks hk3
      go_roundw
      case rel => exact ⟨_, _, hR3, hJ3⟩
      case measure => rw [hR3.left, hR.left]; exact hshr

/-! ### slices.AppendSeq, slices.Collect: ci -/
def ciAs : Code := (Code.region 2 #[{ dst := some 5, op := Op.assign (Operand.tmp 7), type := 3, pos := "iter.go:51", after := #[], guard := none }] false)
def ciBo : Code := (Code.block 1 (Code.region 3 #[{ dst := some 8, op := Op.load 29 (Operand.tmp 2), type := 29, pos := "iter.go:52", after := #[], guard := none }, { dst := some 9, op := Op.move (Operand.tmp 5), type := 3, pos := "iter.go:52", after := #[], guard := none }, { dst := some 10, op := Op.buildSlice 29 1 #[(0, Operand.tmp 9)], type := 29, pos := "iter.go:52", after := #[{ on := 1, ground := Ground.data }], guard := none }, { dst := some 11, op := Op.call { callee := Callee.builtin Builtin.append, args := #[Operand.tmp 8, Operand.tmp 10], argTypes := #[29, 29] }, type := 29, pos := "iter.go:52", after := #[{ on := 0, ground := Ground.data }, { on := 2, ground := Ground.data }], guard := none }, { dst := none, op := Op.store 29 (Operand.tmp 2) (Operand.tmp 11), type := 0, pos := "iter.go:52", after := #[{ on := 3, ground := Ground.data }, { on := 3, ground := Ground.chain }, { on := 0, ground := Ground.phase }, { on := 1, ground := Ground.phase }, { on := 2, ground := Ground.phase }, { on := 3, ground := Ground.phase }], guard := none }] false))
def ciRec (fn : FuncId) (sv : Value) (Bs D : Nat) (st : LoopState) (pend : Option Code) : Loop :=
  { state := st, pending := pend, fn, tmps := #[.slice none 0 0, sv, .pointer (some ⟨Bs, 0, none⟩), undef, .slice none 0 0, undef, sv, undef, undef, undef, undef, undef, undef], params := #[7], assign := ciAs, body := ciBo, defers := D }
structure ciAt {α : Type} (en : α → Int) (w0 : World) (fn : FuncId) (sv : Value) (Bs l D : Nat) (ss : List α) (W : World) : Prop where
  box : ∃ v, W.heap[Bs]? = some (.cells #[v] 29 (0, 0)) ∧ W.ownsRow w0.heap.size 3 1 v ss.length (ss.map (fun x => Value.int .i64 (en x))) ∧ (v = .slice none 0 0 ↔ ss = [])
  L : W.heap[l]? = some (.loop (ciRec fn sv Bs D .ready none))
  K : W.heap[D]? = some (.deferred (some []))
  below : Below w0.heap.size w0 W
theorem ci_abides {α : Type} (en : α → Int) (w0 : World) (fn : FuncId) (sv : Value) (Bs l D B : Nat) (hB : w0.heap.size ≤ B) : AbidesFrom B (ciAt en w0 fn sv Bs l D) := fun s W W' row h hg hrow => by
  have hrow' : ∀ r, row = some r → ∃ o : Obj, W.heap[r]? = some o ∧ o.isWalk = true := fun r e => (hrow r e).2
  obtain ⟨v, hv, hr, hn⟩ := h.box
  exact ⟨⟨v, (grownBy_keeps hg hrow' hv rfl).trans hv, ownsRow_abides hr hg hrow', hn⟩, (grownBy_keeps hg hrow' h.L rfl).trans h.L, (grownBy_keeps hg hrow' h.K rfl).trans h.K,
    h.below.grown hg h.below.size (fun k e => Nat.le_trans hB (hrow k e).1)⟩
theorem ci_info : (Tryz.prog.info? 3).map (fun i => (i.zero, i.size, i.bytes)) = some (some (.int .i64 0), 1, 8) := by kernel_rfl
theorem ci_yield {α : Type} (en : α → Int) (F : Fence) (m : Nat) (w0 : World) (fn : FuncId) (hfn : F.fn fn) (sv : Value) (Bs l D : Nat) (hBl : Bs ≠ l) (hDl : D ≠ l) (hDB : D ≠ Bs) (h0B : w0.heap.size ≤ Bs) (h0l : w0.heap.size ≤ l)
    (N : Nat) (hNb : N ≤ 17179869184) (ss : List α) (x : α) (W : World) (h : ciAt en w0 fn sv Bs l D ss W) (hlen : ss.length < N) :
    YieldAt F m Tryz.prog l #[Value.int .i64 (en x)] W fun e W' => e = .returned (.bool true) ∧ ciAt en w0 fn sv Bs l D (ss ++ [x]) W' ∧ KeepsWalks W W' := by
  obtain ⟨i0, hi, hz0, hz1, hz2⟩ := info_parts ci_info
  obtain ⟨v, hv, hrow, _⟩ := h.box
  obtain ⟨ey, hex⟩ : ∃ ey, en x = ey := ⟨_, rfl⟩
  rw [hex]
  refine ⟨fn, #[.slice none 0 0, sv, .pointer (some ⟨Bs, 0, none⟩), undef, .slice none 0 0, undef, sv, Value.int .i64 ey, undef, undef, undef, undef, undef], ciAs, ciBo, by simpa [ciRec] using run_yield (P := Tryz.prog) (args := #[Value.int .i64 ey]) h.L rfl, roundIn_of_wpIn hfn ?_⟩
  have hl : l < W.heap.size := (Array.getElem?_eq_some_iff.1 h.L).1
  have hbr := run_beginRound (P := Tryz.prog) h.L rfl
  obtain ⟨W2, hW2⟩ : ∃ W2, W.putObj l (.loop { ciRec fn sv Bs D .ready none with state := .busy }) = W2 := ⟨_, rfl⟩
  rw [hW2] at hbr
  have hg2 : W.grownBy W2 (some l) := by rw [← hW2]; exact grownBy_putObj _ _ _
  have hk2 : KeepsWalks W W2 := by rw [← hW2]; exact KeepsWalks.putObj _ h.L rfl
  have hv2 : W2.heap[Bs]? = some (.cells #[v] 29 (0, 0)) := by rw [← hW2]; exact (World.putObj_heap_other hBl).trans hv
  have hK2 : W2.heap[D]? = some (.deferred (some [])) := by rw [← hW2]; exact (World.putObj_heap_other hDl).trans h.K
  have hL2 : W2.heap[l]? = some (.loop { ciRec fn sv Bs D .ready none with state := .busy }) := by rw [← hW2]; exact World.putObj_heap_same hl
  have hrow2 : W2.ownsRow w0.heap.size 3 1 v ss.length (ss.map (fun x => Value.int .i64 (en x))) := hrow.kept hg2 (ownsRow_ne hrow h.L (fun cur e => by cases e))
  have hb2 : Below w0.heap.size w0 W2 := h.below.grown hg2 h.below.size (fun k e => by cases e; exact h0l)
  obtain ⟨hc2, hf2⟩ := cell_of_box hv2
  have hBlt : Bs < W2.heap.size := (Array.getElem?_eq_some_iff.1 hv2).1
  have hl2 : l < W2.heap.size := (Array.getElem?_eq_some_iff.1 hL2).1
  have hDlt : D < W2.heap.size := (Array.getElem?_eq_some_iff.1 hK2).1
  have ne_of : ∀ {j : Nat} {o : Obj}, W2.heap[j]? = some o → (∀ cur, o ≠ .cells cur 3 (0, 0)) → some j ≠ v.ownBlock := fun hj hno => by
    rcases ownsRow_ne hrow2 hj hno with e | e
    · rw [e]; simp
    · exact fun e' => e e'.symm
  clear hW2
  unfold ciAs
  gi_wp2_with (rw [Oper.semAt_eq _ _ _ (fun c h => by cases h)]; go_simp; try go_bits)
  unfold ciBo
  gi_wp2_with (first
    | (gi_at_builtin; refine wpListIn_append_own _ rfl _ _ 29 rfl w0.heap.size 3 i0 (.int .i64 0) 1 8 Tryz.underlying29 hi hz0 hz1 hz2 rfl (by decide) _ _ _ rfl (hrow2.alloc _) ⟨W2.heap.size, 0, none⟩ 1 1 [Value.int .i64 ey] rfl rfl (cell_one_new _ _ _) (by simp [Value.oneCell']) (by unfold maxLen; omega) (by omega) (by have := hb2.size; simp; omega) ?_; intro v' w3 hown' hg3 hnil3
       have hv3 : w3.heap[Bs]? = some (.cells #[v] 29 (0, 0)) := (hg3.block Bs (by simp; omega) (ne_of hv2 (fun cur e => by cases e))).trans ((Below.heap_alloc _ _ Bs hBlt).trans hv2)
       obtain ⟨hc3, hf3⟩ := cell_of_box hv3
       obtain ⟨g', cap', cur', rfl, hbase', hgb', hr1, hr2, hr3, hr4⟩ : ∃ g' cap' cur', v' = .slice (some ⟨g', 0, none⟩) (ss.length + 1) cap' ∧ w0.heap.size ≤ g' ∧ w3.heap[g']? = some (.cells cur' 3 (0, 0)) ∧ ss.length + 1 ≤ cap' ∧ cap' ≤ maxLen ∧ cur'.size = cap' * 1 ∧ cur'.toList.take ((ss.length + 1) * 1) = ss.map (fun x => Value.int .i64 (en x)) ++ [Value.int .i64 ey] := by
         rcases hown'.2 with ⟨_, h0⟩ | h'
         · exact absurd h0 (by omega)
         · exact h'
       go_frame)
    | (rw [Oper.semAt_eq _ _ _ (fun c h => by cases h)]; go_simp; try go_bits))
  have hg3' : (W2.alloc (.cells #[Value.int .i64 ey] 3)).grownBy w3 v.ownBlock := hg3
  have hL3 : w3.heap[l]? = some (.loop { ciRec fn sv Bs D .ready none with state := .busy }) := (hg3'.block l (by simp; omega) (ne_of hL2 (fun cur e => by cases e))).trans ((Below.heap_alloc _ _ l hl2).trans hL2)
  have hK3 : w3.heap[D]? = some (.deferred (some [])) := (hg3'.block D (by simp; omega) (ne_of hK2 (fun cur e => by cases e))).trans ((Below.heap_alloc _ _ D hDlt).trans hK2)
  obtain ⟨w4, hw4⟩ : ∃ w4, w3.setCell ⟨Bs, 0, none⟩ (.slice (some ⟨g', 0, none⟩) (ss.length + 1) cap') = w4 := ⟨_, rfl⟩
  rw [hw4]
  have hg4 : w3.grownBy w4 (some Bs) := by rw [← hw4]; exact grownBy_setCell0 _ _ _
  have hv4 : w4.heap[Bs]? = some (.cells #[.slice (some ⟨g', 0, none⟩) (ss.length + 1) cap'] 29 (0, 0)) := by rw [← hw4]; exact heap_setCell_box _ hv3
  have hL4 : w4.heap[l]? = some (.loop { ciRec fn sv Bs D .ready none with state := .busy }) := (hg4.block l (Array.getElem?_eq_some_iff.1 hL3).1 (fun e => hBl (by cases e; rfl))).trans hL3
  have hK4 : w4.heap[D]? = some (.deferred (some [])) := (hg4.block D (Array.getElem?_eq_some_iff.1 hK3).1 (fun e => hDB (by cases e; rfl))).trans hK3
  have hrow4 := hown'.kept hg4 (ownsRow_ne hown' hv3 (fun cur e => by cases e))
  have hl4 : l < w4.heap.size := (Array.getElem?_eq_some_iff.1 hL4).1
  have hb3 : Below w0.heap.size w0 w3 := (hb2.alloc hb2.size _).grown hg3' (by have := hb2.size; simp; omega) (fun k e => (hrow2.lt k e).1)
  have hb4 : Below w0.heap.size w0 w4 := hb3.grown hg4 hb3.size (fun k e => by cases e; exact h0B)
  have hk4 : KeepsWalks W w4 := ((hk2.trans (KeepsWalks.alloc _ _)).trans (KeepsWalks.of_grownBy hg3' (ownsRow_not_walk (hrow2.alloc _)))).trans (by rw [← hw4]; exact KeepsWalks.setCell _ _ _)
  clear hw4
  refine ⟨_, _, run_endRound none hL4, rfl, ⟨⟨_, (World.putObj_heap_other hBl).trans hv4, ?_, by simp⟩, World.putObj_heap_same hl4, (World.putObj_heap_other hDl).trans hK4, hb4.grown (grownBy_putObj _ _ _) hb4.size (fun k e => by cases e; exact h0l)⟩, hk4.trans (KeepsWalks.putObj _ hL4 rfl)⟩
  have := hrow4.kept (grownBy_putObj w4 l (.loop { { ciRec fn sv Bs D .ready none with state := .busy } with state := if (none : Option Code).isNone then .ready else .done, pending := none })) (ownsRow_ne hrow4 hL4 (fun cur e => by cases e))
  simpa [hex] using this
theorem ci_append {α : Type} (en : α → Int) (F : Fence) (n : Nat) (hfA : F.fn 119) (hro : F.round = none) (hn : 2 ≤ n) (g : Nat) (lb : Array Value) (hFg : F.fn g) (eg : ∀ args w, (callFunc g args).run Tryz.prog w = .ok (.enter g args) w)
    (S : List α → Prop) (N : Nat) (hNb : N ≤ 17179869184) (w : World) (hseq : SeqGives F (n - 1) Tryz.prog g lb (fun x => Value.int .i64 (en x)) S N w) :
    CallsIn F n Tryz.prog 119 #[.slice none 0 0, .func (.func g) #[] lb] w fun e w' => ∃ (v : Value) (ss : List α), e = .returned v ∧ S ss ∧ w'.ownsRow w.heap.size 3 1 v ss.length (ss.map (fun x => Value.int .i64 (en x))) ∧ (v = .slice none 0 0 ↔ ss = []) ∧ Below w.heap.size w w' := by
  have h1 : 1 ≤ n := by omega
  refine callsIn_of_wp_marks Tryz.func119 rfl hfA ?_ hro
  simp only [Tryz.ntmps119, List.size_toArray, List.length_cons, List.length_nil, Nat.reduceAdd, Nat.reduceSub, Array.replicate_succ, Array.replicate_zero, List.push_toArray, List.append_toArray, List.nil_append, List.cons_append]
  gi_wp2
  refine wpIn_rangeFunc ?_
  intro fn hfn
  rw [hro]
  obtain ⟨W0, hW0⟩ : ∃ W0, w.alloc (.cells #[.slice none 0 0] 29) = W0 := ⟨_, rfl⟩
  have hs0 : W0.heap.size = w.heap.size + 1 := by rw [← hW0]; simp
  have hv0 : W0.heap[w.heap.size]? = some (.cells #[.slice none 0 0] 29 (0, 0)) := by rw [← hW0]; exact World.alloc_heap_new w _
  have hb0 : Below w.heap.size w W0 := by rw [← hW0]; exact (Below.refl _ w).alloc (Nat.le_refl _) _
  rw [hW0]
  obtain ⟨W1, hW1⟩ : ∃ W1, (W0.alloc (.deferred (some []))).alloc (.loop (ciRec fn (.func (.func g) #[] lb) w.heap.size W0.heap.size .ready none)) = W1 := ⟨_, rfl⟩
  have hold : ∀ k, k < W0.heap.size → W1.heap[k]? = W0.heap[k]? := fun k hk => by
    rw [← hW1]; exact (Below.heap_alloc _ _ k (by simp; omega)).trans (Below.heap_alloc _ _ k hk)
  have hb1 : Below w.heap.size w W1 := by rw [← hW1]; exact (hb0.alloc hb0.size _).alloc (by have := hb0.size; simp; omega) _
  have hs1 : W1.heap.size = W0.heap.size + 2 := by rw [← hW1]; simp
  have hM : ciAt en w fn (.func (.func g) #[] lb) w.heap.size (W0.heap.size + 1) W0.heap.size [] W1 :=
    ⟨⟨_, (hold w.heap.size (by omega)).trans hv0, ⟨rfl, .inl ⟨rfl, rfl⟩⟩, by simp⟩,
     by rw [← hW1]; have := World.alloc_heap_new (W0.alloc (.deferred (some []))) (.loop (ciRec fn (.func (.func g) #[] lb) w.heap.size W0.heap.size .ready none)); rwa [World.size_alloc] at this,
     by rw [← hW1]; exact (Below.heap_alloc _ _ _ (by simp)).trans (World.alloc_heap_new W0 _), hb1⟩
  refine ⟨W0.heap.size + 1, [{ target := .collected W0.heap.size, args := #[] }], W1, { target := .fn (.func g) lb, args := #[.func (.yield (W0.heap.size + 1)) #[] #[]] }, W1, g,
    #[.func (.yield (W0.heap.size + 1)) #[] #[]] ++ lb, W1, ?_, ?_, ?_, ?_, fun _ => h1, ?_⟩
  · rw [← hW1]; exact run_enterLoop_outer _ _ _ _ _
  · simp [resolve, go_sem]
  · intro f' hf'; simp [Target.leads] at hf'; subst hf'; exact hFg
  · simp [invoke, go_sem, eg]
  · refine (hseq (W0.heap.size + 1) (ciAt en w fn (.func (.func g) #[] lb) w.heap.size (W0.heap.size + 1) W0.heap.size) W1 hb1 (ci_abides _ _ _ _ _ _ _ _ hb1.size)
      (fun pre x W hJ hl => ci_yield en F (n - 1 - 1) w fn hfn _ w.heap.size (W0.heap.size + 1) W0.heap.size (by omega) (by omega) (by omega) (Nat.le_refl _) (by omega) N hNb pre x W hJ hl) hM).mono ?_
    rintro e W2 ⟨⟨v0, rfl⟩, ss, hS, h2⟩
    obtain ⟨v, hv, hrow, hnil⟩ := h2.box
    have hend := run_endLoop (P := Tryz.prog) h2.L (by simp [ciRec])
    obtain ⟨W3, hW3⟩ : ∃ W3, W2.putObj (W0.heap.size + 1) (.loop { ciRec fn (.func (.func g) #[] lb) w.heap.size W0.heap.size .ready none with state := .exhausted }) = W3 := ⟨_, rfl⟩
    rw [hW3] at hend
    have hg3 : W2.grownBy W3 (some (W0.heap.size + 1)) := by rw [← hW3]; exact grownBy_putObj _ _ _
    have hv3 : W3.heap[w.heap.size]? = some (.cells #[v] 29 (0, 0)) := by rw [← hW3]; exact (World.putObj_heap_other (by omega)).trans hv
    have hK3 : W3.heap[W0.heap.size]? = some (.deferred (some [])) := by rw [← hW3]; exact (World.putObj_heap_other (by omega)).trans h2.K
    have hrow3 := hrow.kept hg3 (ownsRow_ne hrow h2.L (fun cur e => by cases e))
    have hb3 : Below w.heap.size w W3 := h2.below.grown hg3 h2.below.size (fun k e => by cases e; omega)
    obtain ⟨hc3, hf3⟩ := cell_of_box hv3
    clear hW3
    refine ⟨none, W3, hend, ?_⟩
    gi_wp2
    rw [← hs0]
    refine ⟨by simp, .inl ⟨_, _, rfl, run_takeDeferred hK3, ?_⟩⟩
    exact ⟨_, results_tmp rfl _ _ _, v, ss, rfl, hS, hrow3.kept (grownBy_putObj _ _ _) (ownsRow_ne hrow3 hK3 (fun cur e => by cases e)), hnil, hb3.grown (grownBy_putObj _ _ _) hb3.size (fun k e => by cases e; omega)⟩
theorem ci_collect {α : Type} (en : α → Int) (F : Fence) (n : Nat) (hfC : F.fn 75) (hfA : F.fn 119) (hro : F.round = none) (hn : 3 ≤ n) (g : Nat) (lb : Array Value) (hFg : F.fn g) (eg : ∀ args w, (callFunc g args).run Tryz.prog w = .ok (.enter g args) w)
    (S : List α → Prop) (N : Nat) (hNb : N ≤ 17179869184) (w : World) (hseq : SeqGives F (n - 1 - 1) Tryz.prog g lb (fun x => Value.int .i64 (en x)) S N w) :
    CallsIn F n Tryz.prog 75 #[.func (.func g) #[] lb] w fun e w' => ∃ (v : Value) (ss : List α), e = .returned v ∧ S ss ∧ w'.ownsRow w.heap.size 3 1 v ss.length (ss.map (fun x => Value.int .i64 (en x))) ∧ (v = .slice none 0 0 ↔ ss = []) ∧ Below w.heap.size w w' := by
  have h1 : 1 ≤ n := by omega
  refine callsIn_of_wp Tryz.func75 rfl hfC ?_ hro
  simp only [Tryz.ntmps75, List.size_toArray, List.length_cons, List.length_nil, Nat.reduceAdd, Nat.reduceSub, Array.replicate_succ, Array.replicate_zero, List.push_toArray, List.append_toArray, List.nil_append, List.cons_append]
  gi_wp2_with (gi_at_call 119; refine (ci_append en F (n - 1) hfA hro (by omega) g lb hFg eg S N hNb _ hseq).mono ?_; rintro e w' ⟨v, ss, rfl, hS, hrow, hnil, hb⟩)
  go_ret
  exact ⟨v, ss, rfl, hS, hrow, hnil, hb⟩

/-! ### slices.AppendSeq, slices.Collect: cp -/
def cpAs : Code := (Code.region 2 #[{ dst := some 5, op := Op.assign (Operand.tmp 7), type := 75, pos := "iter.go:51", after := #[], guard := none }] false)
def cpBo : Code := (Code.block 1 (Code.region 3 #[{ dst := some 8, op := Op.load 84 (Operand.tmp 2), type := 84, pos := "iter.go:52", after := #[], guard := none }, { dst := some 9, op := Op.move (Operand.tmp 5), type := 75, pos := "iter.go:52", after := #[], guard := none }, { dst := some 10, op := Op.buildSlice 84 1 #[(0, Operand.tmp 9)], type := 84, pos := "iter.go:52", after := #[{ on := 1, ground := Ground.data }], guard := none }, { dst := some 11, op := Op.call { callee := Callee.builtin Builtin.append, args := #[Operand.tmp 8, Operand.tmp 10], argTypes := #[84, 84] }, type := 84, pos := "iter.go:52", after := #[{ on := 0, ground := Ground.data }, { on := 2, ground := Ground.data }], guard := none }, { dst := none, op := Op.store 84 (Operand.tmp 2) (Operand.tmp 11), type := 0, pos := "iter.go:52", after := #[{ on := 3, ground := Ground.data }, { on := 3, ground := Ground.chain }, { on := 0, ground := Ground.phase }, { on := 1, ground := Ground.phase }, { on := 2, ground := Ground.phase }, { on := 3, ground := Ground.phase }], guard := none }] false))
def cpRec (fn : FuncId) (sv : Value) (Bs D : Nat) (st : LoopState) (pend : Option Code) : Loop :=
  { state := st, pending := pend, fn, tmps := #[.slice none 0 0, sv, .pointer (some ⟨Bs, 0, none⟩), undef, .slice none 0 0, undef, sv, undef, undef, undef, undef, undef, undef], params := #[7], assign := cpAs, body := cpBo, defers := D }
structure cpAt {α : Type} (en : α → Option Addr) (w0 : World) (fn : FuncId) (sv : Value) (Bs l D : Nat) (ss : List α) (W : World) : Prop where
  box : ∃ v, W.heap[Bs]? = some (.cells #[v] 84 (0, 0)) ∧ W.ownsRow w0.heap.size 75 1 v ss.length (ss.map (fun x => Value.pointer (en x))) ∧ (v = .slice none 0 0 ↔ ss = [])
  L : W.heap[l]? = some (.loop (cpRec fn sv Bs D .ready none))
  K : W.heap[D]? = some (.deferred (some []))
  below : Below w0.heap.size w0 W
theorem cp_abides {α : Type} (en : α → Option Addr) (w0 : World) (fn : FuncId) (sv : Value) (Bs l D B : Nat) (hB : w0.heap.size ≤ B) : AbidesFrom B (cpAt en w0 fn sv Bs l D) := fun s W W' row h hg hrow => by
  have hrow' : ∀ r, row = some r → ∃ o : Obj, W.heap[r]? = some o ∧ o.isWalk = true := fun r e => (hrow r e).2
  obtain ⟨v, hv, hr, hn⟩ := h.box
  exact ⟨⟨v, (grownBy_keeps hg hrow' hv rfl).trans hv, ownsRow_abides hr hg hrow', hn⟩, (grownBy_keeps hg hrow' h.L rfl).trans h.L, (grownBy_keeps hg hrow' h.K rfl).trans h.K,
    h.below.grown hg h.below.size (fun k e => Nat.le_trans hB (hrow k e).1)⟩
theorem cp_info : (Tryz.prog.info? 75).map (fun i => (i.zero, i.size, i.bytes)) = some (some (.pointer none), 1, 8) := by kernel_rfl
theorem cp_yield {α : Type} (en : α → Option Addr) (F : Fence) (m : Nat) (w0 : World) (fn : FuncId) (hfn : F.fn fn) (sv : Value) (Bs l D : Nat) (hBl : Bs ≠ l) (hDl : D ≠ l) (hDB : D ≠ Bs) (h0B : w0.heap.size ≤ Bs) (h0l : w0.heap.size ≤ l)
    (N : Nat) (hNb : N ≤ 17179869184) (ss : List α) (x : α) (W : World) (h : cpAt en w0 fn sv Bs l D ss W) (hlen : ss.length < N) :
    YieldAt F m Tryz.prog l #[Value.pointer (en x)] W fun e W' => e = .returned (.bool true) ∧ cpAt en w0 fn sv Bs l D (ss ++ [x]) W' ∧ KeepsWalks W W' := by
  obtain ⟨i0, hi, hz0, hz1, hz2⟩ := info_parts cp_info
  obtain ⟨v, hv, hrow, _⟩ := h.box
  obtain ⟨ey, hex⟩ : ∃ ey, en x = ey := ⟨_, rfl⟩
  rw [hex]
  refine ⟨fn, #[.slice none 0 0, sv, .pointer (some ⟨Bs, 0, none⟩), undef, .slice none 0 0, undef, sv, Value.pointer ey, undef, undef, undef, undef, undef], cpAs, cpBo, by simpa [cpRec] using run_yield (P := Tryz.prog) (args := #[Value.pointer ey]) h.L rfl, roundIn_of_wpIn hfn ?_⟩
  have hl : l < W.heap.size := (Array.getElem?_eq_some_iff.1 h.L).1
  have hbr := run_beginRound (P := Tryz.prog) h.L rfl
  obtain ⟨W2, hW2⟩ : ∃ W2, W.putObj l (.loop { cpRec fn sv Bs D .ready none with state := .busy }) = W2 := ⟨_, rfl⟩
  rw [hW2] at hbr
  have hg2 : W.grownBy W2 (some l) := by rw [← hW2]; exact grownBy_putObj _ _ _
  have hk2 : KeepsWalks W W2 := by rw [← hW2]; exact KeepsWalks.putObj _ h.L rfl
  have hv2 : W2.heap[Bs]? = some (.cells #[v] 84 (0, 0)) := by rw [← hW2]; exact (World.putObj_heap_other hBl).trans hv
  have hK2 : W2.heap[D]? = some (.deferred (some [])) := by rw [← hW2]; exact (World.putObj_heap_other hDl).trans h.K
  have hL2 : W2.heap[l]? = some (.loop { cpRec fn sv Bs D .ready none with state := .busy }) := by rw [← hW2]; exact World.putObj_heap_same hl
  have hrow2 : W2.ownsRow w0.heap.size 75 1 v ss.length (ss.map (fun x => Value.pointer (en x))) := hrow.kept hg2 (ownsRow_ne hrow h.L (fun cur e => by cases e))
  have hb2 : Below w0.heap.size w0 W2 := h.below.grown hg2 h.below.size (fun k e => by cases e; exact h0l)
  obtain ⟨hc2, hf2⟩ := cell_of_box hv2
  have hBlt : Bs < W2.heap.size := (Array.getElem?_eq_some_iff.1 hv2).1
  have hl2 : l < W2.heap.size := (Array.getElem?_eq_some_iff.1 hL2).1
  have hDlt : D < W2.heap.size := (Array.getElem?_eq_some_iff.1 hK2).1
  have ne_of : ∀ {j : Nat} {o : Obj}, W2.heap[j]? = some o → (∀ cur, o ≠ .cells cur 75 (0, 0)) → some j ≠ v.ownBlock := fun hj hno => by
    rcases ownsRow_ne hrow2 hj hno with e | e
    · rw [e]; simp
    · exact fun e' => e e'.symm
  clear hW2
  unfold cpAs
  gi_wp2_with (rw [Oper.semAt_eq _ _ _ (fun c h => by cases h)]; go_simp; try go_bits)
  unfold cpBo
  gi_wp2_with (first
    | (gi_at_builtin; refine wpListIn_append_own _ rfl _ _ 84 rfl w0.heap.size 75 i0 (.pointer none) 1 8 Tryz.underlying84 hi hz0 hz1 hz2 rfl (by decide) _ _ _ rfl (hrow2.alloc _) ⟨W2.heap.size, 0, none⟩ 1 1 [Value.pointer ey] rfl rfl (cell_one_new _ _ _) (by simp [Value.oneCell']) (by unfold maxLen; omega) (by omega) (by have := hb2.size; simp; omega) ?_; intro v' w3 hown' hg3 hnil3
       have hv3 : w3.heap[Bs]? = some (.cells #[v] 84 (0, 0)) := (hg3.block Bs (by simp; omega) (ne_of hv2 (fun cur e => by cases e))).trans ((Below.heap_alloc _ _ Bs hBlt).trans hv2)
       obtain ⟨hc3, hf3⟩ := cell_of_box hv3
       obtain ⟨g', cap', cur', rfl, hbase', hgb', hr1, hr2, hr3, hr4⟩ : ∃ g' cap' cur', v' = .slice (some ⟨g', 0, none⟩) (ss.length + 1) cap' ∧ w0.heap.size ≤ g' ∧ w3.heap[g']? = some (.cells cur' 75 (0, 0)) ∧ ss.length + 1 ≤ cap' ∧ cap' ≤ maxLen ∧ cur'.size = cap' * 1 ∧ cur'.toList.take ((ss.length + 1) * 1) = ss.map (fun x => Value.pointer (en x)) ++ [Value.pointer ey] := by
         rcases hown'.2 with ⟨_, h0⟩ | h'
         · exact absurd h0 (by omega)
         · exact h'
       go_frame)
    | (rw [Oper.semAt_eq _ _ _ (fun c h => by cases h)]; go_simp; try go_bits))
  have hg3' : (W2.alloc (.cells #[Value.pointer ey] 75)).grownBy w3 v.ownBlock := hg3
  have hL3 : w3.heap[l]? = some (.loop { cpRec fn sv Bs D .ready none with state := .busy }) := (hg3'.block l (by simp; omega) (ne_of hL2 (fun cur e => by cases e))).trans ((Below.heap_alloc _ _ l hl2).trans hL2)
  have hK3 : w3.heap[D]? = some (.deferred (some [])) := (hg3'.block D (by simp; omega) (ne_of hK2 (fun cur e => by cases e))).trans ((Below.heap_alloc _ _ D hDlt).trans hK2)
  obtain ⟨w4, hw4⟩ : ∃ w4, w3.setCell ⟨Bs, 0, none⟩ (.slice (some ⟨g', 0, none⟩) (ss.length + 1) cap') = w4 := ⟨_, rfl⟩
  rw [hw4]
  have hg4 : w3.grownBy w4 (some Bs) := by rw [← hw4]; exact grownBy_setCell0 _ _ _
  have hv4 : w4.heap[Bs]? = some (.cells #[.slice (some ⟨g', 0, none⟩) (ss.length + 1) cap'] 84 (0, 0)) := by rw [← hw4]; exact heap_setCell_box _ hv3
  have hL4 : w4.heap[l]? = some (.loop { cpRec fn sv Bs D .ready none with state := .busy }) := (hg4.block l (Array.getElem?_eq_some_iff.1 hL3).1 (fun e => hBl (by cases e; rfl))).trans hL3
  have hK4 : w4.heap[D]? = some (.deferred (some [])) := (hg4.block D (Array.getElem?_eq_some_iff.1 hK3).1 (fun e => hDB (by cases e; rfl))).trans hK3
  have hrow4 := hown'.kept hg4 (ownsRow_ne hown' hv3 (fun cur e => by cases e))
  have hl4 : l < w4.heap.size := (Array.getElem?_eq_some_iff.1 hL4).1
  have hb3 : Below w0.heap.size w0 w3 := (hb2.alloc hb2.size _).grown hg3' (by have := hb2.size; simp; omega) (fun k e => (hrow2.lt k e).1)
  have hb4 : Below w0.heap.size w0 w4 := hb3.grown hg4 hb3.size (fun k e => by cases e; exact h0B)
  have hk4 : KeepsWalks W w4 := ((hk2.trans (KeepsWalks.alloc _ _)).trans (KeepsWalks.of_grownBy hg3' (ownsRow_not_walk (hrow2.alloc _)))).trans (by rw [← hw4]; exact KeepsWalks.setCell _ _ _)
  clear hw4
  refine ⟨_, _, run_endRound none hL4, rfl, ⟨⟨_, (World.putObj_heap_other hBl).trans hv4, ?_, by simp⟩, World.putObj_heap_same hl4, (World.putObj_heap_other hDl).trans hK4, hb4.grown (grownBy_putObj _ _ _) hb4.size (fun k e => by cases e; exact h0l)⟩, hk4.trans (KeepsWalks.putObj _ hL4 rfl)⟩
  have := hrow4.kept (grownBy_putObj w4 l (.loop { { cpRec fn sv Bs D .ready none with state := .busy } with state := if (none : Option Code).isNone then .ready else .done, pending := none })) (ownsRow_ne hrow4 hL4 (fun cur e => by cases e))
  simpa [hex] using this
theorem cp_append {α : Type} (en : α → Option Addr) (F : Fence) (n : Nat) (hfA : F.fn 134) (hro : F.round = none) (hn : 2 ≤ n) (g : Nat) (lb : Array Value) (hFg : F.fn g) (eg : ∀ args w, (callFunc g args).run Tryz.prog w = .ok (.enter g args) w)
    (S : List α → Prop) (N : Nat) (hNb : N ≤ 17179869184) (w : World) (hseq : SeqGives F (n - 1) Tryz.prog g lb (fun x => Value.pointer (en x)) S N w) :
    CallsIn F n Tryz.prog 134 #[.slice none 0 0, .func (.func g) #[] lb] w fun e w' => ∃ (v : Value) (ss : List α), e = .returned v ∧ S ss ∧ w'.ownsRow w.heap.size 75 1 v ss.length (ss.map (fun x => Value.pointer (en x))) ∧ (v = .slice none 0 0 ↔ ss = []) ∧ Below w.heap.size w w' := by
  have h1 : 1 ≤ n := by omega
  refine callsIn_of_wp_marks Tryz.func134 rfl hfA ?_ hro
  simp only [Tryz.ntmps134, List.size_toArray, List.length_cons, List.length_nil, Nat.reduceAdd, Nat.reduceSub, Array.replicate_succ, Array.replicate_zero, List.push_toArray, List.append_toArray, List.nil_append, List.cons_append]
  gi_wp2
  refine wpIn_rangeFunc ?_
  intro fn hfn
  rw [hro]
  obtain ⟨W0, hW0⟩ : ∃ W0, w.alloc (.cells #[.slice none 0 0] 84) = W0 := ⟨_, rfl⟩
  have hs0 : W0.heap.size = w.heap.size + 1 := by rw [← hW0]; simp
  have hv0 : W0.heap[w.heap.size]? = some (.cells #[.slice none 0 0] 84 (0, 0)) := by rw [← hW0]; exact World.alloc_heap_new w _
  have hb0 : Below w.heap.size w W0 := by rw [← hW0]; exact (Below.refl _ w).alloc (Nat.le_refl _) _
  rw [hW0]
  obtain ⟨W1, hW1⟩ : ∃ W1, (W0.alloc (.deferred (some []))).alloc (.loop (cpRec fn (.func (.func g) #[] lb) w.heap.size W0.heap.size .ready none)) = W1 := ⟨_, rfl⟩
  have hold : ∀ k, k < W0.heap.size → W1.heap[k]? = W0.heap[k]? := fun k hk => by
    rw [← hW1]; exact (Below.heap_alloc _ _ k (by simp; omega)).trans (Below.heap_alloc _ _ k hk)
  have hb1 : Below w.heap.size w W1 := by rw [← hW1]; exact (hb0.alloc hb0.size _).alloc (by have := hb0.size; simp; omega) _
  have hs1 : W1.heap.size = W0.heap.size + 2 := by rw [← hW1]; simp
  have hM : cpAt en w fn (.func (.func g) #[] lb) w.heap.size (W0.heap.size + 1) W0.heap.size [] W1 :=
    ⟨⟨_, (hold w.heap.size (by omega)).trans hv0, ⟨rfl, .inl ⟨rfl, rfl⟩⟩, by simp⟩,
     by rw [← hW1]; have := World.alloc_heap_new (W0.alloc (.deferred (some []))) (.loop (cpRec fn (.func (.func g) #[] lb) w.heap.size W0.heap.size .ready none)); rwa [World.size_alloc] at this,
     by rw [← hW1]; exact (Below.heap_alloc _ _ _ (by simp)).trans (World.alloc_heap_new W0 _), hb1⟩
  refine ⟨W0.heap.size + 1, [{ target := .collected W0.heap.size, args := #[] }], W1, { target := .fn (.func g) lb, args := #[.func (.yield (W0.heap.size + 1)) #[] #[]] }, W1, g,
    #[.func (.yield (W0.heap.size + 1)) #[] #[]] ++ lb, W1, ?_, ?_, ?_, ?_, fun _ => h1, ?_⟩
  · rw [← hW1]; exact run_enterLoop_outer _ _ _ _ _
  · simp [resolve, go_sem]
  · intro f' hf'; simp [Target.leads] at hf'; subst hf'; exact hFg
  · simp [invoke, go_sem, eg]
  · refine (hseq (W0.heap.size + 1) (cpAt en w fn (.func (.func g) #[] lb) w.heap.size (W0.heap.size + 1) W0.heap.size) W1 hb1 (cp_abides _ _ _ _ _ _ _ _ hb1.size)
      (fun pre x W hJ hl => cp_yield en F (n - 1 - 1) w fn hfn _ w.heap.size (W0.heap.size + 1) W0.heap.size (by omega) (by omega) (by omega) (Nat.le_refl _) (by omega) N hNb pre x W hJ hl) hM).mono ?_
    rintro e W2 ⟨⟨v0, rfl⟩, ss, hS, h2⟩
    obtain ⟨v, hv, hrow, hnil⟩ := h2.box
    have hend := run_endLoop (P := Tryz.prog) h2.L (by simp [cpRec])
    obtain ⟨W3, hW3⟩ : ∃ W3, W2.putObj (W0.heap.size + 1) (.loop { cpRec fn (.func (.func g) #[] lb) w.heap.size W0.heap.size .ready none with state := .exhausted }) = W3 := ⟨_, rfl⟩
    rw [hW3] at hend
    have hg3 : W2.grownBy W3 (some (W0.heap.size + 1)) := by rw [← hW3]; exact grownBy_putObj _ _ _
    have hv3 : W3.heap[w.heap.size]? = some (.cells #[v] 84 (0, 0)) := by rw [← hW3]; exact (World.putObj_heap_other (by omega)).trans hv
    have hK3 : W3.heap[W0.heap.size]? = some (.deferred (some [])) := by rw [← hW3]; exact (World.putObj_heap_other (by omega)).trans h2.K
    have hrow3 := hrow.kept hg3 (ownsRow_ne hrow h2.L (fun cur e => by cases e))
    have hb3 : Below w.heap.size w W3 := h2.below.grown hg3 h2.below.size (fun k e => by cases e; omega)
    obtain ⟨hc3, hf3⟩ := cell_of_box hv3
    clear hW3
    refine ⟨none, W3, hend, ?_⟩
    gi_wp2
    rw [← hs0]
    refine ⟨by simp, .inl ⟨_, _, rfl, run_takeDeferred hK3, ?_⟩⟩
    exact ⟨_, results_tmp rfl _ _ _, v, ss, rfl, hS, hrow3.kept (grownBy_putObj _ _ _) (ownsRow_ne hrow3 hK3 (fun cur e => by cases e)), hnil, hb3.grown (grownBy_putObj _ _ _) hb3.size (fun k e => by cases e; omega)⟩
theorem cp_collect {α : Type} (en : α → Option Addr) (F : Fence) (n : Nat) (hfC : F.fn 111) (hfA : F.fn 134) (hro : F.round = none) (hn : 3 ≤ n) (g : Nat) (lb : Array Value) (hFg : F.fn g) (eg : ∀ args w, (callFunc g args).run Tryz.prog w = .ok (.enter g args) w)
    (S : List α → Prop) (N : Nat) (hNb : N ≤ 17179869184) (w : World) (hseq : SeqGives F (n - 1 - 1) Tryz.prog g lb (fun x => Value.pointer (en x)) S N w) :
    CallsIn F n Tryz.prog 111 #[.func (.func g) #[] lb] w fun e w' => ∃ (v : Value) (ss : List α), e = .returned v ∧ S ss ∧ w'.ownsRow w.heap.size 75 1 v ss.length (ss.map (fun x => Value.pointer (en x))) ∧ (v = .slice none 0 0 ↔ ss = []) ∧ Below w.heap.size w w' := by
  have h1 : 1 ≤ n := by omega
  refine callsIn_of_wp Tryz.func111 rfl hfC ?_ hro
  simp only [Tryz.ntmps111, List.size_toArray, List.length_cons, List.length_nil, Nat.reduceAdd, Nat.reduceSub, Array.replicate_succ, Array.replicate_zero, List.push_toArray, List.append_toArray, List.nil_append, List.cons_append]
  gi_wp2_with (gi_at_call 134; refine (cp_append en F (n - 1) hfA hro (by omega) g lb hFg eg S N hNb _ hseq).mono ?_; rintro e w' ⟨v, ss, rfl, hS, hrow, hnil, hb⟩)
  go_ret
  exact ⟨v, ss, rfl, hS, hrow, hnil, hb⟩
end Rc
