/-
  OWN WORK. Receiver: the keys of a map, in order ('starts'): a range over the map, shown by hand.
-/
import Derived.Maps.Range
import Derived.Test.YtjhcndahjhkahaaGreatLS
namespace Rc
open Go Go.Proofs Eng
set_option linter.unusedVariables false
set_option linter.unusedSimpArgs false
set_option maxRecDepth 100000
set_option maxHeartbeats 4000000

/-! ### lists of numbers -/
theorem nodup_len : ∀ (N : Nat) (l : List Int), l.Nodup → (∀ x ∈ l, 0 ≤ x ∧ x < (N : Int)) → l.length ≤ N
  | 0, l, _, h => by
    cases l with
    | nil => exact Nat.le_refl _
    | cons a r => have := h a (List.mem_cons_self ..); omega
  | N + 1, l, hd, h => by
    by_cases hm : (N : Int) ∈ l
    · have h1 := nodup_len N (l.erase (N : Int)) (hd.erase _) (fun x hx => by
        have hx' := List.mem_of_mem_erase hx
        have h2 := h x hx'
        have hne : x ≠ N := ((List.Nodup.mem_erase_iff hd).1 hx).1
        omega)
      rw [List.length_erase_of_mem hm] at h1
      omega
    · exact Nat.le_succ_of_le (nodup_len N l hd fun x hx => by
        have h2 := h x hx
        have hne : x ≠ N := fun q => hm (q ▸ hx)
        omega)
def Rising (l : List Int) : Prop := l.Pairwise (· < ·)
theorem rising_eq : ∀ {l m : List Int}, Rising l → Rising m → (∀ x, x ∈ l ↔ x ∈ m) → l = m
  | [], [], _, _, _ => rfl
  | [], b :: m, _, _, h => by have := (h b).2 (List.mem_cons_self ..); cases this
  | a :: l, [], _, _, h => by have := (h a).1 (List.mem_cons_self ..); cases this
  | a :: l, b :: m, h1, h2, h => by
    obtain ⟨a1, a2⟩ := List.pairwise_cons.1 h1
    obtain ⟨b1, b2⟩ := List.pairwise_cons.1 h2
    have e : a = b := by
      rcases List.mem_cons.1 ((h a).1 (List.mem_cons_self ..)) with q | q
      · exact q
      · rcases List.mem_cons.1 ((h b).2 (List.mem_cons_self ..)) with q' | q'
        · exact q'.symm
        · have := a1 b q'; have := b1 a q; omega
    subst e
    rw [rising_eq a2 b2 fun x => ⟨fun hx => by
      rcases List.mem_cons.1 ((h x).1 (List.mem_cons_of_mem _ hx)) with q | q
      · subst q; have := a1 x hx; omega
      · exact q, fun hx => by
      rcases List.mem_cons.1 ((h x).2 (List.mem_cons_of_mem _ hx)) with q | q
      · subst q; have := b1 x hx; omega
      · exact q⟩]
theorem sort_rising {l : List Int} (h : l.Nodup) : Rising (l.mergeSort fun x y => decide (x ≤ y)) ∧ ∀ x, x ∈ l.mergeSort (fun x y => decide (x ≤ y)) ↔ x ∈ l := by
  have hp := List.mergeSort_perm l fun x y => decide (x ≤ y)
  have hs : (l.mergeSort fun x y => decide (x ≤ y)).Pairwise fun a b => decide (a ≤ b) = true := List.pairwise_mergeSort (fun a b c h1 h2 => by simp at *; omega) (fun a b => by simp; omega) l
  refine ⟨?_, fun x => hp.mem_iff⟩
  have hn : (l.mergeSort fun x y => decide (x ≤ y)).Nodup := hp.nodup_iff.2 h
  unfold Rising
  refine (hs.and hn).imp ?_
  rintro a b ⟨h1, h2⟩
  have := of_decide_eq_true h1
  omega

/-! ### steps by hand -/
section
variable {P : Program} {E : Env} {N : Nat} {fr : Fr} {a : Act} {H : Hp} {C : Ctx} {w w' : World} {o : Oper} {ops : Array Oper} {rest : List Oper} {Q : Exit → Act → World → Prop}
/-- An operation whose value is known. -/
theorem wpl_sv (hA : Has N fr a) (hg : o.guard = none) {v : SV} (hrun : (execOp a.eval o).run P w = .ok (.value v.den) w') (hd : okDst N [] fr o.dst = true) (hw : v.wf) (h : ∀ a', Has N (put o.dst [] v fr) a' → a'.defers = a.defers → wpList P ops Q rest a' w') : wpList P ops Q (o :: rest) a w := by
  refine wpList_plain hg fun K hK => ?_
  unfold Oper.wp
  rw [hrun]
  have := hA.put (G := []) (v := v) (dst := o.dst) trivial hd (fun _ => hw)
  rw [show condB [] = true from rfl, if_pos rfl] at this
  exact hK _ _ (h _ this (by cases o.dst <;> rfl))
/-- An operation without effect. -/
theorem wpl_p (hE : EnvOk P E) (hA : Has N fr a) (hS : Sat C H w) (hg : o.guard = none) {v : SV} {ps : List Ob} (hp : pstep E fr H [] o.op = some (ps, v)) (hps : allTrue ps) (hd : okDst N [] fr o.dst = true) (h : ∀ a' w', Has N (put o.dst [] v fr) a' → a'.defers = a.defers → Sat C H w' → wpList P ops Q rest a' w') : wpList P ops Q (o :: rest) a w := by
  obtain ⟨h1, h2⟩ := pstep_sound (G := []) hE hA trivial trivial hp hps hS
  refine wpList_plain hg fun K hK => wp_of_quietAt (T := Sat C H) hS (h2 w hS) fun w' hw' => ?_
  have := hA.put (G := []) (v := v) (dst := o.dst) trivial hd (fun _ => h1)
  rw [show condB [] = true from rfl, if_pos rfl] at this
  exact hK _ _ (h _ _ this (by cases o.dst <;> rfl) hw')
/-- One block changes that no entry speaks of. -/
theorem Sat.other (hS : Sat C H w) {r : Nat} (h1 : w'.os = w.os) (h2 : w'.tape = w.tape) (h3 : w'.output = w.output) (h4 : w'.heap.size = w.heap.size) (h5 : ∀ k, k ≠ r → w'.heap[k]? = w.heap[k]?) (hr : C.w0.heap.size ≤ r) (hn : ∀ e ∈ H, e.z = false → ¬ e.blk r) : Sat C H w' := by
  refine ⟨⟨h1.trans hS.kept.os, h2.trans hS.kept.tape, h3.trans hS.kept.output, by rw [h4]; exact hS.kept.size, fun k hk hm => (h5 k (by omega)).trans (hS.kept.block k hk hm)⟩, fun e he => ?_, hS.apart⟩
  refine (hS.ents e he).keep (by omega) ?_
  cases hz : e.z with
  | true => exact .inl rfl
  | false => exact .inr fun k hk => h5 k fun q => hn e he hz (q ▸ hk)
theorem Sat.retag {g g' b off wd n : Nat} {get : Nat → SV} {own one : Bool} {cap : Nat} {t : TypeId} {z : Bool} {fam : Option (Nat → Nat × Nat)} (hS : Sat C (⟨g, b, off, wd, n, get, own, one, cap, t, z, fam⟩ :: H) w) : Sat C (⟨g', b, off, wd, n, get, own, one, cap, t, z, fam⟩ :: H) w := by
  have h := hS.ents _ (List.mem_cons_self ..)
  obtain ⟨h1, h2⟩ := List.pairwise_cons.1 hS.apart
  refine ⟨hS.kept, fun e he => ?_, List.pairwise_cons.2 ⟨fun x hx => h1 x hx, h2⟩⟩
  rcases List.mem_cons.1 he with he | he
  · subst he
    exact ⟨h.one, h.ro, h.z, h.ow, h.fam, h.mob, h.row⟩
  · exact hS.ents e (List.mem_cons_of_mem _ he)
end

/-! ### the range -/
abbrev RowK := Nat × Nat × Nat
abbrev rowK (g : Nat) (ks : List Int) (y : RowK) : Ent := ⟨g, y.1, y.2.1, 1, ks.length, fun k => .int .i64 (ks.getD k 0), true, false, y.2.2, 3, decide (ks.length = 0), none⟩
abbrev slK (g : Nat) (ks : List Int) (y : RowK) : SV := .slice g y.1 y.2.1 [] 1 0 ks.length y.2.2 (decide (ks.length = 0))
abbrev capK (ks : List Int) (y : RowK) : Prop := ks.length ≤ y.2.2 ∧ y.2.2 ≤ 9223372036854775807 ∧ (ks.length = 0 → y.2.2 = 0)
theorem row_not {C : Ctx} {w : World} {g : Nat} {ks : List Int} {y : RowK} (hS : Sat C [rowK g ks y] w) {r : Nat} {m : Option Nat} {s : Nat} {sn : Array Nat} {c : Nat} (hr : w.heap[r]? = some (.mapIter m s sn c)) : ∀ e ∈ [rowK g ks y], e.z = false → ¬ e.blk r := by
  intro e he hz hk
  have hE := hS.ents e he
  rw [List.mem_singleton] at he
  subst he
  obtain ⟨_, _, cs, fz, h3, _, _⟩ := hE.ow rfl hz rfl
  have hk : r = y.1 := hk
  subst hk
  have h3 : w.heap[y.1]? = _ := h3
  rw [hr] at h3
  cases h3
theorem row_nil (C : Ctx) {w : World} (hk : Kept C w) : Sat C [rowK 0 [] (0, 0, 0)] w := by
  refine ⟨hk, fun e he => ?_, List.pairwise_singleton _ _⟩
  rw [List.mem_singleton] at he
  subst he
  exact ⟨(fun q => by cases q), (fun q => by cases q), (fun _ => ⟨rfl, rfl⟩), (fun _ q _ => by cases q), (fun f hf => by cases hf), (fun f hf => by cases hf), (fun i hi => by simp at hi)⟩
theorem kept_fm {w : World} (w' : World) (h : Kept (Fm w []) w') {k : Nat} (hk : k < w.heap.size) : w'.heap[k]? = w.heap[k]? :=
  h.block k hk fun ⟨e, he, _⟩ => by cases he

/-- Under way: what has come. -/
structure LI (wb : World) (mb clock : Nat) (es : Array MapEntry) (h : Int → Bool) (x : List Int × Array Nat) (a : Act) (w : World) : Prop where
  it : ∃ c0, w.heap[wb.heap.size]? = some (.mapIter (some mb) clock x.2 c0) ∧ clock ≤ c0
  seen : ∀ e ∈ es.toList, x.2.contains e.born = true ↔ ∃ k ∈ x.1, e.key = .int .i64 k
  nd : x.1.Nodup
  mem : ∀ k ∈ x.1, h k = true
  defers : a.defers = []
  row : ∃ y : RowK, capK x.1 y ∧ Sat (Fm wb []) [rowK 0 x.1 y] w ∧ Has 21 [⟨3, [], slK 0 x.1 y⟩, ⟨9, [], .val (.pointer (some ⟨wb.heap.size, 0, none⟩))⟩] a
def ESo : Env := E0.addE 40 sortC
theorem ESo_ok : EnvOk Tryz.prog ESo := E0_ok.addE sort_ok
def LG (ks : List Int) : LA := ⟨0, RowK, [3], fun y => [slK 0 ks y], [0], fun y => [rowK 0 ks y], fun y => capK ks y, fun _ => 0⟩
def LR (ks : List Int) (y : RowK) : LA := ⟨0, Unit, [2], fun _ => [slK 0 ks y], [0], fun _ => [⟨0, y.1, y.2.1, 1, ks.length, fun k => .int .i64 (sortF ks.length (fun k => ks.getD k 0) k), true, false, y.2.2, 3, decide (ks.length = 0), none⟩], fun _ => True, fun _ => 0⟩
theorem range_map (ks : List Int) : (List.range ks.length).map (fun k => ks.getD k 0) = ks := by
  apply List.ext_getElem?
  intro i
  by_cases hi : i < ks.length
  · simp [hi, List.getD]
  · rw [List.getElem?_eq_none (by simpa using hi), List.getElem?_eq_none (by omega)]
theorem starts_calls {C : Ctx} {H : Hp} {w : World} (hS : Sat C H w) {g b off : Nat} {p : List PS} (hv : (SV.ptr g b off p).wf) {ps : List Ob} {mg mb mi : Nat}
    (hp : pstep E0 [⟨7, [], .ptr g b off (addFld p 9 9)⟩] H [] (.load 80 (.tmp 7)) = some (ps, .map mg mb mi)) (hps : allTrue ps) {h : Int → Bool} {gt : Int → SV} (hm : ∀ w, Sat C H w → MapIs w mb h gt) (hb : ∀ x, h x = true → 0 ≤ x ∧ x < 65536) :
    Calls Tryz.prog 56 #[(SV.ptr g b off p).den] w fun e w' => ∃ (l : List Int) (y : RowK), Rising l ∧ (∀ x, h x = true ↔ x ∈ l) ∧ capK l y ∧ e = .returned (slK 0 l y).den ∧ Sat C (rowK 0 l y :: H) w' := by
  refine calls_of_wp Tryz.func56 rfl ?_
  have hA0 : Has 21 [⟨0, [], .ptr g b off p⟩] { tmps := #[(SV.ptr g b off p).den] ++ Array.replicate (21 - 1) undef, defers := [] } := by
    refine ⟨by simp, fun s e he => ?_⟩
    simp only [Fr.find] at he
    split at he
    · rename_i hs
      injection he with he
      subst he
      have e1 : 0 = s := by simpa using hs
      subst e1
      exact ⟨by simp [condB], fun _ => hv, trivial⟩
    · cases he
  refine wp_seq (wp_region_list ?_)
  refine wpl_p (C := C) (H := H) E0_ok hA0 hS rfl (v := nilSlice) (ps := []) rfl trivial rfl ?_
  intro a1 w1 hA1 hd1 hS1
  refine wp_seq (wp_region_list ?_)
  refine wpl_p (C := C) (H := H) E0_ok hA1 hS1 rfl (v := nilSlice) (ps := []) rfl trivial rfl ?_
  intro a2 w2 hA2 hd2 hS2
  refine wp_seq (wp_seq (wp_region_list ?_))
  refine wpl_p (C := C) (H := H) E0_ok hA2 hS2 rfl (v := .ptr g b off p) (ps := []) rfl trivial rfl ?_
  intro a3 w3 hA3 hd3 hS3
  refine wpl_p (C := C) (H := H) E0_ok hA3 hS3 rfl (v := .ptr g b off p) (ps := []) rfl trivial rfl ?_
  intro a4 w4 hA4 hd4 hS4
  refine wpl_p (C := C) (H := H) E0_ok hA4 hS4 rfl (v := .ptr g b off (addFld p 9 9)) (ps := []) rfl trivial rfl ?_
  intro a5 w5 hA5 hd5 hS5
  refine wpl_p (C := C) (H := H) E0_ok hA5 hS5 rfl (v := .map mg mb mi) (ps := ps) hp hps rfl ?_
  intro a6 wb hA6 hd6 hS6
  have hM := hm wb hS6
  obtain ⟨es, clock, m1, m2, m3, m4⟩ := hM
  obtain ⟨st1, st2, st3⟩ := (MapKept.stamped_iff es clock).1 m2
  have hlt : mb < wb.heap.size := (Array.getElem?_eq_some_iff.1 m1).1
  have hk0 : Kept (Fm wb []) wb := ⟨rfl, rfl, rfl, Nat.le_refl _, fun _ _ _ => rfl⟩
  -- the range itself
  obtain ⟨q1, q2, _⟩ := hA6.slot 8 _ rfl
  have q1 : a6.tmps[8]? = some (.map (some mb)) := q1
  have hrng := run_range_map (P := Tryz.prog) wb 80 3 3 mb es clock Tryz.underlying80 m1
  refine wpl_sv (v := .val (.pointer (some ⟨wb.heap.size, 0, none⟩))) (w' := wb.alloc (.mapIter (some mb) clock #[] clock)) hA6 rfl ?_ rfl trivial ?_
  · have e8 : a6.eval (.tmp 8) = .map (some mb) := by simp [Act.eval, Array.getD_eq_getD_getElem?, q1]
    simp [execOp, e8, hrng, Result.andThen, SV.den]
  intro a7 hA7 hd7
  have hal : ∀ k, k < wb.heap.size → (wb.alloc (.mapIter (some mb) clock #[] clock)).heap[k]? = wb.heap[k]? := fun k hk => by
    show (wb.heap.push _)[k]? = _
    rw [Array.getElem?_push_lt hk, Array.getElem?_eq_getElem hk]
  -- the loop
  have hI0 : LI wb mb clock es h ([], #[]) a7 (wb.alloc (.mapIter (some mb) clock #[] clock)) := by
    refine ⟨⟨clock, heap_alloc_new wb _, Nat.le_refl _⟩, fun e he => ?_, List.nodup_nil, (fun k hk => by cases hk), ?_, (0, 0, 0), ⟨Nat.le_refl _, by decide, fun _ => rfl⟩, row_nil _ (hk0.alloc _), ?_⟩
    · simp
    · rw [hd7, hd6, hd5, hd4, hd3, hd2, hd1]
    · refine ⟨hA7.size, fun s e he => ?_⟩
      simp only [Fr.find] at he
      split at he
      · rename_i hs
        injection he with he
        subst he
        have e1 : 3 = s := by simpa using hs
        subst e1
        exact hA7.slot 3 ⟨3, [], nilSlice⟩ rfl
      · split at he
        · rename_i hs
          injection he with he
          subst he
          have e1 : 9 = s := by simpa using hs
          subst e1
          exact hA7.slot 9 ⟨9, [], .val (.pointer (some ⟨wb.heap.size, 0, none⟩))⟩ rfl
        · cases he
  refine wp_block (wp_loop_x (LI wb mb clock es h) (fun x => (leftOf es x.2).size) ([], #[]) hI0 ?_)
  clear hI0 hA7 hA6 hA5 hA4 hA3 hA2 hA1 hA0
  intro x a w ⟨⟨c0, it, itc⟩, hseen, hnd, hmem, hdf, y, hcap, hSr, hA⟩
  have hbm : w.heap[mb]? = some (.map es clock) := (kept_fm w hSr.kept hlt).trans m1
  have hlen : x.1.length ≤ 65536 := nodup_len 65536 x.1 hnd fun k hk => hb k (hmem k hk)
  have e9 : a.eval (.tmp 9) = .pointer (some ⟨wb.heap.size, 0, none⟩) := by
    have := (hA.slot 9 ⟨9, [], .val (.pointer (some ⟨wb.heap.size, 0, none⟩))⟩ rfl).1
    simp only [condB, if_true] at this
    simp [Act.eval, Array.getD_eq_getD_getElem?, this, SV.den]
  refine wp_seq (wp_region_list ?_)
  rcases run_next_at (P := Tryz.prog) w 0 wb.heap.size mb clock c0 x.2 es clock it hbm st1 itc with ⟨h0, hrun⟩ | ⟨e, he, w1, hal1, hrun⟩
  · -- nothing is left
    refine wpl_sv (v := .tup [.bool false]) (w' := w) hA rfl (by simp [execOp, e9, hrun, Result.andThen, SV.den, SV.denL]) rfl ⟨trivial, trivial⟩ ?_
    intro b1 hB1 hf1
    have hx := ps_extract (P := Tryz.prog) (w := w) (o := ⟨some 11, .extract (.tmp 10) 0, 4, "", #[], none⟩) (E := E0) (H := []) (G := []) (v := .bool false) (ps := []) hB1 trivial trivial rfl rfl
    refine wpl_sv (v := .bool false) (w' := w) hB1 rfl (by have := hx.2; simpa [execOp] using this) rfl trivial ?_
    intro b2 hB2 hf2
    have e11 : b2.eval (.tmp 11) = .bool false := by
      have := (hB2.slot 11 ⟨11, [], .bool false⟩ rfl).1
      simp only [condB, if_true] at this
      simp [Act.eval, Array.getD_eq_getD_getElem?, this, SV.den]
    refine wp_seq (wp_cond_false e11 (wp_exit ?_))
    have hsl : ∀ k, sortF x.1.length (fun k => x.1.getD k 0) k = (x.1.mergeSort fun x y => decide (x ≤ y)).getD k 0 := fun k => by
      unfold sortF
      split
      · unfold sortL
        rw [range_map]
      · rename_i hk
        simp [List.getD, List.getElem?_eq_none, Nat.le_of_not_lt hk]
    refine exCode_sound (N := 21) ESo_ok [] _ (Fm wb []) _ [rowK 0 x.1 y] 1 (fun e fr' H' _ => match e with | .ret => meets (LR x.1 y) fr' H' () True | _ => False) _ b2 w ?_ hB2 hSr ?_
    · obtain ⟨cap1, cap2, cap3⟩ := hcap
      refine vc_of (q :=
          (y.1=y.1∧y.2.1=y.2.1)∧(0=0∧∀ (k1:Nat), k1 < List.length x.1→true=true)∧∀ (x'1:Eng.OwnD Int × Unit), x'1=(Eng.OwnD.mk y.1 y.2.1 (List.length x.1) y.2.2 (decide (List.length x.1=0)) (List.length x.1) y.2.2 (decide (List.length x.1=0)) fun (k:Nat) ↦ List.getD x.1 k (0:Int), ())→Eng.OwnD.n (Prod.fst x'1)≤Eng.OwnD.m (Prod.fst x'1)∧Eng.OwnD.n (Prod.fst x'1)≤1000000∧(Eng.OwnD.z (Prod.fst
          x'1)=true∨Eng.OwnD.ez (Prod.fst x'1)=false)∧∀ (y1:Unit), True→(y.1=y.1∧y.2.1=y.2.1∧0=0∧List.length x.1=List.length x.1∧y.2.2=y.2.2∧decide (List.length x.1=0)=decide (List.length x.1=0))∧((Eng.OwnD.b (Prod.fst x'1)=y.1∧Eng.OwnD.off (Prod.fst x'1)=y.2.1∧Eng.OwnD.ez (Prod.fst x'1)=decide (List.length x.1=0)∧List.length x.1≤Eng.OwnD.m (Prod.fst x'1)∧List.length x.1≤y.2.2∧y.2.2≤Eng.OwnD.cap (Prod.fst
          x'1))∧∀ (i1:Nat), i1 < List.length x.1→sortF (Eng.OwnD.n (Prod.fst x'1)) (Eng.OwnD.f (Prod.fst x'1)) i1=sortF (List.length x.1) (fun (k:Nat) ↦ List.getD x.1 k (0:Int)) i1)∧True) (by kernel_rfl) ?_
      refine ⟨⟨rfl, rfl⟩, ⟨rfl, fun _ _ => rfl⟩, ?_⟩
      rintro x' rfl
      refine ⟨Nat.le_refl _, by dsimp only; omega, ?_, fun _ _ => ⟨⟨rfl, rfl, rfl, rfl, rfl, rfl⟩, ⟨⟨rfl, rfl, rfl, Nat.le_refl _, cap1, Nat.le_refl _⟩, fun i hi => rfl⟩, trivial⟩⟩
      dsimp only
      cases decide (x.1.length = 0)
      · exact .inr rfl
      · exact .inl rfl
    · intro e fr' H' nx' a' w' hk hA' hS' hU
      cases e with
      | ret =>
        obtain ⟨_, s1, s2, _⟩ := meets_sound hA' hS' hk
        obtain ⟨_, s3, _⟩ := s1 2 _ rfl
        refine ⟨by rw [hU.defers, hf2, hf1]; exact hdf, (slK 0 x.1 y).den, ?_, x.1.mergeSort (fun x y => decide (x ≤ y)), y, (sort_rising hnd).1, fun k => ?_, ?_, ?_, ?_⟩
        · simp [results, s3]
        · rw [(sort_rising hnd).2]
          refine ⟨fun hk => ?_, hmem k⟩
          obtain ⟨_, _, _, e, he, hek⟩ := m4 k hk
          obtain ⟨k', hk', hek'⟩ := (hseen e he).1 (all_seen es x.2 h0 e he)
          rw [hek] at hek'
          injection hek' with _ q
          rw [q]; exact hk'
        · unfold capK
          rw [List.length_mergeSort]
          exact hcap
        · simp only [slK, List.length_mergeSort]
        · have hu := Sat.unframe (D := []) (F := H) hS6 s2
          have hrow : (LR x.1 y).ents () = [rowK 0 (x.1.mergeSort fun x y => decide (x ≤ y)) y] := by
            show [_] = [_]
            simp only [rowK, List.length_mergeSort, hsl]
          rw [hrow] at hu
          exact hu
      | _ => exact hk.elim
  · -- an entry comes
    obtain ⟨hem, hes⟩ := mem_left he
    obtain ⟨k, ek, hhk, ev⟩ := m3 e hem
    obtain ⟨gw, gn, ga, _⟩ := m4 k hhk
    have hr1 : w1.heap[wb.heap.size]? = some (.mapIter (some mb) clock x.2 c0) := by rcases hal1 with rfl | rfl <;> exact it
    have hset := MapKept.heap_set (o' := .mapIter (some mb) clock (x.2.push e.born) clock) hr1
    have hset2 : ∀ k, k ≠ wb.heap.size → (ChangeMaps.setBlock w1 wb.heap.size (.mapIter (some mb) clock (x.2.push e.born) clock)).heap[k]? = w.heap[k]? := fun k hk => (hset.2 k hk).trans (by rcases hal1 with rfl | rfl <;> rfl)
    have hr2 : (ChangeMaps.setBlock w1 wb.heap.size (.mapIter (some mb) clock (x.2.push e.born) clock)).heap[wb.heap.size]? = some (.mapIter (some mb) clock (x.2.push e.born) clock) := hset.1
    have hSr2 : Sat (Fm wb []) [rowK 0 x.1 y] (ChangeMaps.setBlock w1 wb.heap.size (.mapIter (some mb) clock (x.2.push e.born) clock)) := by
      refine Sat.other hSr (r := wb.heap.size) ?_ ?_ ?_ ?_ hset2 (Nat.le_refl _) (row_not hSr it)
      · rcases hal1 with rfl | rfl <;> rfl
      · rcases hal1 with rfl | rfl <;> rfl
      · rcases hal1 with rfl | rfl <;> rfl
      · rcases hal1 with rfl | rfl <;> simp [ChangeMaps.setBlock]
    generalize ChangeMaps.setBlock w1 wb.heap.size (.mapIter (some mb) clock (x.2.push e.born) clock) = w2 at hrun hset2 hr2 hSr2
    clear hset hr1 hal1
    have hbm2 : w2.heap[mb]? = some (.map es clock) := (kept_fm w2 hSr2.kept hlt).trans m1
    refine wpl_sv (v := .tup [.bool true, .int .i64 k, gt k]) (w' := w2) hA rfl (by simp [execOp, e9, hrun, Result.andThen, SV.den, SV.denL, ek, ev]) rfl ⟨trivial, trivial, gw, trivial⟩ ?_
    intro b1 hB1 hf1
    have hx := ps_extract (P := Tryz.prog) (w := w2) (o := ⟨some 11, .extract (.tmp 10) 0, 4, "", #[], none⟩) (E := E0) (H := []) (G := []) (v := .bool true) (ps := []) hB1 trivial trivial rfl rfl
    refine wpl_sv (v := .bool true) (w' := w2) hB1 rfl (by have := hx.2; simpa [execOp] using this) rfl trivial ?_
    clear hx
    intro b2 hB2 hf2
    have e11 : b2.eval (.tmp 11) = .bool true := by
      have := (hB2.slot 11 ⟨11, [], .bool true⟩ rfl).1
      simp only [condB, if_true] at this
      simp [Act.eval, Array.getD_eq_getD_getElem?, this, SV.den]
    have e9' : b2.eval (.tmp 9) = .pointer (some ⟨wb.heap.size, 0, none⟩) := by
      have := (hB2.slot 9 ⟨9, [], .val (.pointer (some ⟨wb.heap.size, 0, none⟩))⟩ rfl).1
      simp only [condB, if_true] at this
      simp [Act.eval, Array.getD_eq_getD_getElem?, this, SV.den]
    refine wp_seq (wp_cond_true e11 (wp_skip ?_))
    refine wp_block (wp_seq (wp_region_list ?_))
    have hent := run_entry_at (P := Tryz.prog) w2 wb.heap.size mb clock x.2 es clock e hr2 hbm2 hem st2
    refine wpl_sv (v := .tup [.int .i64 k, gt k]) (w' := w2) hB2 rfl (by simp [execOp, e9', hent, Result.andThen, SV.den, SV.denL, ek, ev]) rfl ⟨trivial, gw, trivial⟩ ?_
    intro b3 hB3 hf3
    have hx := ps_extract (P := Tryz.prog) (w := w2) (o := ⟨some 13, .extract (.tmp 12) 0, 3, "", #[], none⟩) (E := E0) (H := []) (G := []) (v := .int .i64 k) (ps := []) hB3 trivial trivial rfl rfl
    refine wpl_sv (v := .int .i64 k) (w' := w2) hB3 rfl (by have := hx.2; simpa [execOp] using this) rfl trivial ?_
    clear hx
    intro b4 hB4 hf4
    have hx := ps_move (P := Tryz.prog) (w := w2) (o := ⟨some 4, .assign (.tmp 13), 3, "", #[], none⟩) (G := []) (v := .int .i64 k) hB4 trivial trivial (.inr rfl) rfl
    refine wpl_sv (v := .int .i64 k) (w' := w2) hB4 rfl (by have := hx.2; simpa [execOp] using this) rfl trivial ?_
    clear hx
    intro b5 hB5 hf5
    have hfi := Sat.frame_in (D := [rowK 0 x.1 y]) (F := []) hSr2
    refine exCode_sound (N := 21) E0_ok [] _ (Fm w2 [rowK 0 x.1 y]) _ [rowK 0 x.1 y] 1 (fun e fr' H' _ => match e with | .normal => ∃ y', meets (LG (x.1 ++ [k])) fr' H' y' (capK (x.1 ++ [k]) y') | _ => False) _ b5 w2 ?_ hB5 hfi ?_
    · obtain ⟨cap1, cap2, cap3⟩ := hcap
      refine vc_of (q :=
          ∀ (b6:Nat), (y.1=y.1∧y.2.1=y.2.1)∧(decide (List.length x.1=0)=true→decide (List.length x.1=0)=true)∧0=0∧List.length x.1≤List.length x.1∧y.2.2≤y.2.2∧(List.length x.1+1)*8≤140737488355328∧List.length x.1+1≤9223372036854775807∧1≤1∧(b6=b6∧0=0)∧∀ (b7 b8 b9:Nat), List.length x.1+1≤b9→b9≤9223372036854775807→(decide (List.length x.1=0)=true→1=0→b9=0)→∃ (x1:Nat × Nat × Nat),
          (b7=x1.1∧b8=x1.2.1∧0=0∧List.length x.1+1=List.length (x.1++[k])∧b9=x1.2.2∧(decide (List.length x.1=0)&&decide (1=0))=decide (List.length (x.1++[k])=0))∧((b7=x1.1∧b8=x1.2.1∧(decide (List.length x.1=0)&&decide (1=0))=decide (List.length (x.1++[k])=0)∧List.length (x.1++[k])≤List.length x.1+1∧List.length (x.1++[k])≤x1.2.2∧x1.2.2≤b9)∧∀ (i1:Nat), i1 < List.length (x.1++[k])→(if i1 < List.length x.1 then
          List.getD x.1 i1 (0:Int) else k)=List.getD (x.1++[k]) i1 (0:Int))∧List.length (x.1++[k])≤x1.2.2∧x1.2.2≤9223372036854775807∧(List.length (x.1++[k])=0→x1.2.2=0)) (by kernel_rfl) ?_
      intro b6
      refine ⟨⟨rfl, rfl⟩, fun q => q, rfl, Nat.le_refl _, Nat.le_refl _, by omega, by omega, Nat.le_refl _, ⟨rfl, rfl⟩, fun b7 b8 b9 q1 q2 q3 => ?_⟩
      have hl1 : (x.1 ++ [k]).length = x.1.length + 1 := by simp
      have hz1 : (decide (x.1.length = 0) && decide (1 = 0)) = decide ((x.1 ++ [k]).length = 0) := by rw [hl1]; simp
      refine ⟨(b7, b8, b9), ⟨rfl, rfl, rfl, hl1.symm, rfl, hz1⟩, ⟨⟨rfl, rfl, hz1, by rw [hl1]; exact Nat.le_refl _, by rw [hl1]; exact q1, Nat.le_refl _⟩, fun i hi => ?_⟩, by rw [hl1]; exact q1, q2, fun q => by rw [hl1] at q; omega⟩
      have hi : i < x.1.length + 1 := by rw [← hl1]; exact hi
      by_cases q : i < x.1.length
      · rw [if_pos q]
        simp [List.getD, List.getElem?_append_left q]
      · rw [if_neg q]
        have q : i = x.1.length := by omega
        subst q
        simp [List.getD]
    · intro e' fr' H' nx' a' w' hk hA' hS' hU
      cases e' with
      | normal =>
        obtain ⟨y', hk⟩ := hk
        obtain ⟨hc', s1, s2, _⟩ := meets_sound hA' hS' hk
        have hu := Sat.unframe (D := [rowK 0 x.1 y]) (F := []) hSr2 s2
        have hu : Sat (Fm wb []) [rowK 0 (x.1 ++ [k]) y'] w' := hu
        have hrk : w'.heap[wb.heap.size]? = some (.mapIter (some mb) clock (x.2.push e.born) clock) := by
          refine (s2.kept.block _ (Array.getElem?_eq_some_iff.1 hr2).1 fun ⟨e1, h1, _, h2, h3⟩ => row_not hSr2 hr2 e1 h1 h2 h3).trans hr2
        have hknew : k ∉ x.1 := fun hk => by
          have := (hseen e hem).2 ⟨k, hk, ek⟩
          rw [hes] at this
          cases this
        refine ⟨(x.1 ++ [k], x.2.push e.born), ⟨⟨clock, hrk, Nat.le_refl _⟩, fun e' he' => ?_, ?_, ?_, ?_, y', hc', hu, ?_⟩, left_shrinks es x.2 e he⟩
        · dsimp only
          rw [contains_push, Bool.or_eq_true, hseen e' he']
          constructor
          · rintro (⟨k', hk', q⟩ | q)
            · exact ⟨k', List.mem_append_left _ hk', q⟩
            · have q : e'.born = e.born := by simpa using q
              have := born_inj st2 he' hem q
              exact ⟨k, by simp, by rw [this]; exact ek⟩
          · rintro ⟨k', hk', q⟩
            rcases List.mem_append.1 hk' with hk' | hk'
            · exact .inl ⟨k', hk', q⟩
            · refine .inr ?_
              have hk' : k' = k := by simpa using hk'
              have := entry_eq_of_key st3 he' hem (by rw [q, ek, hk'])
              simp [this]
        · exact List.nodup_append.2 ⟨hnd, by simp, fun a ha b hb q => by
            have hb : b = k := by simpa using hb
            exact hknew (by rw [← hb, ← q]; exact ha)⟩
        · intro k' hk'
          rcases List.mem_append.1 hk' with hk' | hk'
          · exact hmem k' hk'
          · have hk' : k' = k := by simpa using hk'
            rw [hk']; exact hhk
        · rw [hU.defers, hf5, hf4, hf3, hf2, hf1]; exact hdf
        · refine ⟨hA'.size, fun s e he => ?_⟩
          simp only [Fr.find] at he
          split at he
          · rename_i hs
            injection he with he
            subst he
            have e1 : 3 = s := by simpa using hs
            subst e1
            obtain ⟨_, s3, s4⟩ := s1 3 _ rfl
            exact ⟨by simpa [condB] using s3, fun _ => s4, trivial⟩
          · split at he
            · rename_i hs
              injection he with he
              subst he
              have e1 : 9 = s := by simpa using hs
              subst e1
              have h9 := hU.slot 9 (by simp [asg])
              obtain ⟨g1, g2, g3⟩ := hB5.slot 9 ⟨9, [], .val (.pointer (some ⟨wb.heap.size, 0, none⟩))⟩ rfl
              exact ⟨h9.trans g1, g2, trivial⟩
            · cases he
      | _ => exact hk.elim

/-! ### as contracts -/
/-- The map of a transaction. -/
def mapArg (v : SV) (H : Hp) : Option (List Ob × (Int → Bool) × (Int → SV)) := match v with
  | .ptr g b off p => match pstep E0 [⟨7, [], .ptr g b off (addFld p 9 9)⟩] H [] (.load 80 (.tmp 7)) with
    | some (ps, .map mg mb mi) => match H.find mg with
      | some me => match me.fam with
        | some f => match me.get mi with
          | .mobj h gt => some (.p ((f mi).1 = mb) :: .p (mi < me.n) :: ps, h, gt)
          | _ => none
        | none => none
      | none => none
    | _ => none
  | _ => none
theorem mapArg_calls {C : Ctx} {H : Hp} {w : World} (hS : Sat C H w) {v : SV} (hv : v.wf) {ps : List Ob} {h : Int → Bool} {gt : Int → SV} (hm : mapArg v H = some (ps, h, gt)) (hps : allTrue ps) (hb : ∀ x, h x = true → 0 ≤ x ∧ x < 65536) :
    Calls Tryz.prog 56 #[v.den] w fun e w' => ∃ (l : List Int) (y : RowK), Rising l ∧ (∀ x, h x = true ↔ x ∈ l) ∧ capK l y ∧ e = .returned (slK 0 l y).den ∧ Sat C (rowK 0 l y :: H) w' := by
  unfold mapArg at hm
  split at hm
  · rename_i g b off p
    split at hm
    · rename_i qs mg mb mi hp
      split at hm
      · rename_i me hme
        split at hm
        · rename_i f hf
          split at hm
          · rename_i h0 g0 hg
            simp only [Option.some.injEq, Prod.mk.injEq] at hm
            obtain ⟨rfl, rfl, rfl⟩ := hm
            obtain ⟨p1, p2, p3⟩ := hps
            have p1 : (f mi).1 = mb := p1
            have p2 : mi < me.n := p2
            refine starts_calls (gt := g0) hS hv hp p3 (fun w hw => ?_) hb
            have := ((hw.ents me (find_mem H mg me hme).1).mob f hf mi p2 h0 g0 hg).2.2
            rw [p1] at this
            exact this
          · cases hm
        · cases hm
      · cases hm
    · cases hm
  · cases hm
/-- The keys, in order. -/
def startsT (args : List SV) (H : Hp) (nx : Nat) (K : SV → Hp → Nat → Prop) : Prop := match args with
  | [v] => match mapArg v H with
    | some (ps, h, gt) => allL (.p (∀ x, h x = true → 0 ≤ x ∧ x < 65536) :: ps) (∀ (l : List Int) (y : RowK), Rising l → (∀ x, h x = true ↔ x ∈ l) → capK l y → K (slK nx l y) (rowK nx l y :: H) (nx + 1))
    | none => False
  | _ => False
theorem starts_ok : EcOk Tryz.prog 56 startsT := by
  intro args H nx K hc hw
  refine ⟨goFn_of Tryz.func56 rfl rfl, fun C w hS => ?_⟩
  unfold startsT at hc
  split at hc
  · rename_i v
    split at hc
    · rename_i ps h gt hm
      rw [allL_iff] at hc
      obtain ⟨⟨p1, p2⟩, hK⟩ := hc
      refine (mapArg_calls hS (hw v (List.mem_cons_self ..)) hm p2 p1).mono ?_
      rintro e w' ⟨l, y, q1, q2, q3, rfl, q4⟩
      exact ⟨slK nx l y, _, _, hK l y q1 q2 q3, ⟨fun q => (by have q : l.length = 0 := of_decide_eq_true q; exact ⟨q, q3.2.2 q⟩), q3.1, q3.2.1⟩, rfl, Sat.retag q4⟩
    · exact hc.elim
  · exact hc.elim
end Rc
