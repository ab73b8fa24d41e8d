/-
  OWN WORK. Sender: slices.SortFunc of spans, by the shelf's contract.
-/
import Derived.Test.YtfmbmiiioojbeaaGreatSrf
import Derived.Test.YtfmbmiiioojbeaaGreatN6
namespace Rc
open Go Go.Proofs Eng Go.Shelf Go.RowKit Go.Lib Go.Sort
set_option linter.unusedVariables false
set_option linter.unusedSimpArgs false
set_option maxHeartbeats 4000000
set_option maxRecDepth 100000
abbrev SpD := Int × Int × Unit
abbrev eSp : Elt SpD := .agg (.cons (.int .i64) (.cons (.int .i64) .nil))
def encS (x : P2) : List Value := [.int .i64 x.1, .int .i64 x.2]
def cvS (x : SpD) : P2 := (x.1, x.2.1)
theorem cmp_calls (x y : P2) (W : World) : Calls Tryz.prog 53 #[.agg #[.int .i64 x.1, .int .i64 x.2], .agg #[.int .i64 y.1, .int .i64 y.2]] W fun e w' => e = .returned (.int .i64 (Lib.compareInt x.1 y.1)) ∧ ∃ q os', w' = Sort.grow (W.drewN q) os' := by
  have hcon := fun W' => AnyG.cmp_Compare_int Srf.laysC x.1 y.1 W'
  change ∀ W', Calls Tryz.prog 54 _ _ _ at hcon
  generalize Lib.compareInt x.1 y.1 = r at hcon ⊢
  go_enter Tryz.func53, Tryz.ntmps53
  go_wp2_with (go_at_call 54; refine (hcon _).mono ?_; rintro e w' ⟨rfl, rfl⟩)
  go_ret
  exact ⟨rfl, 0, _, by rw [Sort.alloc_eq_grow, Sort.alloc_eq_grow, Sort.grow_grow]; rfl⟩
theorem ltLo (x y : P2) : ltOf (fun x y : P2 => Lib.compareInt x.1 y.1) x y = decide (x.1 < y.1) := by
  unfold ltOf Lib.compareInt
  by_cases h1 : x.1 < y.1
  · simp [h1]
  · by_cases h2 : y.1 < x.1 <;> simp [h1, h2]
theorem swoLo : Sort.SWO (ltOf fun x y : P2 => Lib.compareInt x.1 y.1) where
  irrefl x := by rw [ltLo]; simp
  trans x y z h1 h2 := by rw [ltLo] at *; simp at *; omega
  ntrans x y z h1 h2 := by rw [ltLo] at *; simp at *; omega
abbrev aSortS : ArgL (OwnD SpD × Unit × Unit) := .cons (.orow 112 eSp) (.cons (.fnc 53 .nil) .nil)
def listS (n : Nat) (f : Nat → SpD) : List P2 := (List.range n).map fun k => cvS (f k)
/-- Sorted; the same ones. -/
def sortP (n : Nat) (f g : Nat → SpD) : Prop := (listS n g).Perm (listS n f) ∧ (listS n g).Pairwise fun p q => p.1 ≤ q.1
def sortSC := ecU aSortS (fun x => [x.1.n ≤ x.1.m, x.1.n ≤ 1000000, x.1.z = false, x.1.ez = false]) (fun x (g : Nat → SpD) => sortP x.1.n x.1.f g) (fun x g => ({ x.1 with f := fun k => if k < x.1.n then g k else x.1.f k }, x.2)) (fun _ _ => .tup [])
theorem flat_at (d : Array P2) (i c : Nat) (hi : i < d.size) (hc : c < 2) : (flatK encS 2 d)[i * 2 + c]! = (encS d[i]!)[c]! := by
  rw [get_flatK encS 2 d _ (by omega)]
  have h1 : (i * 2 + c) / 2 = i := by omega
  have h2 : (i * 2 + c) % 2 = c := by omega
  rw [h1, h2]
theorem sortS_sat {C : Ctx} {w : World} {b off m n cap : Nat} {f g : Nat → SpD} (hS : Sat C [⟨0, b, off, 2, m, fun k => .agg [.int .i64 (f k).1, .int .i64 (f k).2.1], true, false, cap, 112, false, none⟩] w) (hn : n ≤ m) (d : Array P2) (hl : d.size = n) (hd : ∀ k, k < n → d[k]! = cvS (g k)) (n' : Nat) (os : Array Obj) :
    Sat C [⟨0, b, off, 2, m, fun k => .agg [.int .i64 (if k < n then g k else f k).1, .int .i64 (if k < n then g k else f k).2.1], true, false, cap, 112, false, none⟩] (sortWorldK encS 2 w b off n' d os) := by
  have hE := hS.ents _ (List.mem_singleton.2 rfl)
  obtain ⟨o1, o2, cs, fz, o3, o4, o5⟩ := hE.ow rfl rfl rfl
  dsimp only at o1 o2 o3 o4
  have hlt : b < w.heap.size := (Array.getElem?_eq_some_iff.1 o3).1
  obtain ⟨D, hD⟩ : ∃ D, flatK encS 2 d = D := ⟨_, rfl⟩
  have hDs : D.size = n * 2 := by rw [← hD, size_flatK, hl]
  have hw' : sortWorldK encS 2 w b off n' d os = Sort.grow (Sort.putRow id (Sort.ahead w n') b off D) os := by rw [← hD]; rfl
  rw [hw']
  have hh : ∀ k, k < w.heap.size → (Sort.grow (Sort.putRow id (Sort.ahead w n') b off D) os).heap[k]? = if k = b then some (.cells (Sort.putCells id off D cs) 112 fz) else w.heap[k]? := fun k hk => by
    rw [Sort.heap_grow_old _ _ (by simpa using hk)]
    unfold Sort.putRow Sort.mapBlock
    dsimp only
    rw [Array.getElem?_modify]
    by_cases q : k = b
    · subst q
      rw [if_pos rfl, if_pos rfl, Sort.heap_ahead, o3]
      rfl
    · rw [if_neg q, if_neg (fun q' => q q'.symm), Sort.heap_ahead]
  have hb := hh b hlt
  rw [if_pos rfl] at hb
  have hsz : (Sort.putCells id off D cs).size = cs.size := by simp [Sort.putCells]
  refine ⟨⟨hS.kept.os, hS.kept.tape, hS.kept.output, by rw [Sort.size_grow, Sort.size_putRow]; exact Nat.le_trans hS.kept.size (Nat.le_add_right _ _), fun k hk hM => ?_⟩, fun e he => ?_, List.pairwise_singleton _ _⟩
  · rw [hh k (Nat.lt_of_lt_of_le hk hS.kept.size), if_neg]
    · exact hS.kept.block k hk hM
    · rintro rfl
      rcases o1 with q | q
      · omega
      · exact hM q
  · rw [List.mem_singleton] at he
    subst he
    refine ⟨(fun q => by cases q), (fun q => by cases q), (fun q => by cases q), fun _ _ _ => ⟨o1, o2, _, fz, hb, by rw [hsz]; exact o4, by rw [hsz]; exact o5⟩, (fun f q => by cases q), (fun f q => by cases q), fun i hi => ⟨.inl ⟨trivial, rfl, trivial, rfl, trivial⟩, rfl, rfl, fun k hk => ?_⟩⟩
    dsimp only at hi ⊢
    have hk : k < 2 := hk
    have hr := (hE.row i hi).2.2.2 k hk
    dsimp only at hr
    simp only [World.cell?, o3, Option.isSome_none, Bool.false_eq_true, if_false] at hr
    simp only [World.cell?, hb, Option.isSome_none, Bool.false_eq_true, if_false]
    simp only [Sort.putCells, Array.getElem?_mapIdx, hr, hDs]
    by_cases q : i < n
    · have hfl : ∀ x : SpD, (SV.agg [.int .i64 x.1, .int .i64 x.2.1]).flat = encS (cvS x) := fun _ => rfl
      rw [hfl, if_pos q, hfl]
      have hlen : ∀ x : P2, (encS x).length = 2 := fun _ => rfl
      rw [List.getElem?_eq_getElem (by rw [hlen]; exact hk), List.getElem?_eq_getElem (by rw [hlen]; exact hk)]
      simp only [Option.map_some]
      rw [if_pos (by omega), show off + i * 2 + k - off = i * 2 + k by omega, ← hD, flat_at d i k (by omega) hk, hd i q]
      simp only [id]
      rw [getElem!_pos _ _ (by rw [hlen]; exact hk)]
    · rw [if_neg q]
      have : ¬ (off ≤ off + i * 2 + k ∧ off + i * 2 + k < off + n * 2) := by omega
      simp only [this, if_false]
      cases ((SV.agg [.int .i64 (f i).1, .int .i64 (f i).2.1]).flat)[k]? <;> rfl
theorem sortS_ok : EcOk Tryz.prog 52 sortSC := by
  refine ecC_hand (goFn_of Tryz.func52 rfl rfl) (fun ⟨⟨b, off, n, c, z, m, cap, ez, f⟩, (), ()⟩ hp hw C w hS => ?_) (fun x y e he => by
    rw [show _ = List.filter _ _ from owned_eq _] at he
    simpa using (List.mem_filter.1 he).2)
  obtain ⟨p1, p2, p3, p4, _⟩ := hp
  dsimp only at p1 p2 p3 p4
  subst p3 p4
  have hS : Sat C [⟨0, b, off, 2, m, fun k => .agg [.int .i64 (f k).1, .int .i64 (f k).2.1], true, false, cap, 112, false, none⟩] w := hS
  have hE := hS.ents _ (List.mem_singleton.2 rfl)
  obtain ⟨o1, o2, cs, fz, o3, o4, o5⟩ := hE.ow rfl rfl rfl
  dsimp only at o1 o2 o3 o4
  have hlt : b < w.heap.size := (Array.getElem?_eq_some_iff.1 o3).1
  obtain ⟨d, hd⟩ : ∃ d : Array P2, (listS n f).toArray = d := ⟨_, rfl⟩
  have hds : d.size = n := by rw [← hd]; simp [listS]
  have hdg : ∀ i, i < n → d[i]! = cvS (f i) := fun i hi => by rw [← hd, getElem!_pos _ _ (by simpa [listS] using hi)]; simp [listS]
  have hH : HoldsK encS 2 w b off d := fun j hj => by
    have hj : j < n * 2 := by simpa [hds] using hj
    obtain ⟨i, k, hi, hk, rfl⟩ : ∃ i k, i < n ∧ k < 2 ∧ j = i * 2 + k := ⟨j / 2, j % 2, by omega, by omega, by omega⟩
    have hr := (hE.row i (Nat.lt_of_lt_of_le hi p1)).2.2.2 k hk
    dsimp only at hr
    refine ⟨?_, ?_⟩
    · rw [flat_at d i k (by omega) hk, hdg i hi, ← Nat.add_assoc, hr]
      have hlen : ∀ x : P2, (encS x).length = 2 := fun _ => rfl
      show (encS (cvS (f i)))[k]? = _
      rw [List.getElem?_eq_getElem (by rw [hlen]; exact hk), getElem!_pos _ _ (by rw [hlen]; exact hk)]
      rfl
    · simp only [World.frozen?, o3]
      have := o5 (off + (i * 2 + k)) (by omega)
      simpa using this
  have eg : ∀ args w, (callFunc 53 args).run Tryz.prog w = .ok (.enter 53 args) w := enters_of Tryz.func53 (by kernel_rfl) rfl
  have hc := AnyQ.slices_SortFunc Srf.lays 2 Tryz.isAgg112 Tryz.sizeOf112 encS (fun _ => rfl) (fun x v hv => by simp [encS] at hv; rcases hv with rfl | rfl <;> rfl) (fun x y => Lib.compareInt x.1 y.1) swoLo 53 #[] b off c d w eg (fun _ _ _ _ x y => cmp_calls x y _) hH hlt (by omega)
  have e2 : Srf.ren.f 6 = 52 := rfl
  have e1 : (SV.denL (aSortS.svs 0 (⟨b, off, n, c, false, m, cap, false, f⟩, (), ()))).toArray = #[.slice (some ⟨b, off, none⟩) d.size c, .func (.func 53) #[] #[]] := by
    rw [hds]
    show #[Value.slice (some ⟨b, off + (0 + 0 * 2), none⟩) n c, Value.func (.func 53) #[] #[]] = _
    rfl
  rw [e2] at hc
  rw [e1]
  refine hc.mono ?_
  rintro e w' ⟨rfl, d', n', os, ⟨q1, q2, q3⟩, q4, rfl⟩
  have hs' : d'.size = n := q1.trans hds
  have hg : ∀ k, k < n → d'[k]! = cvS ((fun k => ((d'[k]!).1, (d'[k]!).2, ())) k) := fun k _ => rfl
  have hls : listS n (fun k => ((d'[k]!).1, (d'[k]!).2, ())) = d'.toList := by
    apply List.ext_getElem
    · simp [listS, hs']
    · intro i h1 h2
      have hi : i < d'.size := by simpa using h2
      simp only [listS, List.getElem_map, List.getElem_range, cvS]
      rw [getElem!_pos d' i hi]
      simp
  refine ⟨fun k => ((d'[k]!).1, (d'[k]!).2, ()), ⟨?_, ?_⟩, trivial, rfl, sortS_sat hS p1 d' hs' hg n' os⟩
  · dsimp only
    rw [hls]
    have : d.toList = listS n f := by rw [← hd]
    rw [← this]
    rw [hds] at q3
    rw [Array.extract_eq_self_of_le (by omega), Array.extract_eq_self_of_le (by omega)] at q3
    exact q3
  · dsimp only
    rw [hls]
    refine List.pairwise_iff_getElem.2 fun i j hi hj hij => ?_
    have hi' : i < d'.size := by simpa using hi
    have hj' : j < d'.size := by simpa using hj
    have := q4 i j (Nat.zero_le _) hij (by omega)
    rw [ltLo, getElem!_pos d' i hi', getElem!_pos d' j hj'] at this
    have := of_decide_eq_false this
    simp only [Array.getElem_toList]
    omega
end Rc
