/-
  OWN WORK. Receiver: slices.Sort of ints, by the shelf's contract.
-/
import Derived.Test.YtfmbmiiioojbeaaGreatEngP
import Derived.Test.YtfmbmiiioojbeaaGreatSrt
import Derived.Test.YtfmbmiiioojbeaaGreatL1
namespace Rc
open Go Go.Proofs Eng
set_option linter.unusedVariables false
set_option linter.unusedSimpArgs false
set_option maxHeartbeats 4000000
set_option maxRecDepth 100000

/-! ### a nil slice -/
abbrev aNil : ArgL (Unit × Unit) := .cons .nilS .nil
abbrev aNil2 : ArgL (Unit × Int × Int × Unit) := .cons .nilS (.cons (.elt (.int .i64)) (.cons (.elt (.int .i64)) .nil))
def sortN := pcOf aNil (fun _ => []) (fun _ => .tup [])
def EBF : Env := (((E0.inl 130 Tryz.f130 fun _ _ => [.raw 1, .det 2, .raw 4, .det 5, .raw 7, .det 8, .raw 10]).inl 80 Tryz.f80 fun _ _ => [.det 1]).inl 138 Tryz.f138 fun _ _ => [.raw 0, .unroll 1 1, .det 0]).inl 120 Tryz.f120 fun _ _ => [.raw 2, .raw 3, .det 4, .unroll 2 1]
theorem EBF_ok : EnvOk Tryz.prog EBF := (((E0_ok.inl _ Tryz.func130 rfl (by kernel_rfl)).inl _ Tryz.func80 rfl (by kernel_rfl)).inl _ Tryz.func138 rfl (by kernel_rfl)).inl _ Tryz.func120 rfl (by kernel_rfl)
theorem sortN_ok : PcOk Tryz.prog 76 sortN := by
  refine pcOf_run (fun _ => EBF_ok) Tryz.func76 rfl (by kernel_rfl) (fun _ => trivial) (fun _ => [.raw 0, .raw 1]) (fun _ => Nat.le_of_ble_eq_true rfl) (fun ⟨_, ()⟩ hp hw => ?_)
  refine vc_of (q :=
      (0:Int)≤IntKind.u8.wrap (IntKind.u64.wrap (↑(0:Nat):Int))∧IntKind.u8.wrap (IntKind.u64.wrap (↑(0:Nat):Int)) < (↑(List.length (List.append (List.append [0, (1:UInt8), (2:UInt8), (2:UInt8), (3:UInt8), (3:UInt8), (3:UInt8), (3:UInt8), (4:UInt8), (4:UInt8), (4:UInt8), (4:UInt8), (4:UInt8), (4:UInt8), (4:UInt8), (4:UInt8), (5:UInt8), (5:UInt8), (5:UInt8), (5:UInt8), (5:UInt8), (5:UInt8), (5:UInt8),
      (5:UInt8), (5:UInt8), (5:UInt8), (5:UInt8), (5:UInt8), (5:UInt8), (5:UInt8), (5:UInt8), (5:UInt8), (6:UInt8), (6:UInt8), (6:UInt8), (6:UInt8), (6:UInt8), (6:UInt8), (6:UInt8), (6:UInt8), (6:UInt8), (6:UInt8), (6:UInt8), (6:UInt8), (6:UInt8), (6:UInt8), (6:UInt8), (6:UInt8), (6:UInt8), (6:UInt8), (6:UInt8), (6:UInt8), (6:UInt8), (6:UInt8), (6:UInt8), (6:UInt8), (6:UInt8), (6:UInt8), (6:UInt8),
      (6:UInt8), (6:UInt8), (6:UInt8), (6:UInt8), (6:UInt8)] [(7:UInt8), (7:UInt8), (7:UInt8), (7:UInt8), (7:UInt8), (7:UInt8), (7:UInt8), (7:UInt8), (7:UInt8), (7:UInt8), (7:UInt8), (7:UInt8), (7:UInt8), (7:UInt8), (7:UInt8), (7:UInt8), (7:UInt8), (7:UInt8), (7:UInt8), (7:UInt8), (7:UInt8), (7:UInt8), (7:UInt8), (7:UInt8), (7:UInt8), (7:UInt8), (7:UInt8), (7:UInt8), (7:UInt8), (7:UInt8), (7:UInt8),
      (7:UInt8), (7:UInt8), (7:UInt8), (7:UInt8), (7:UInt8), (7:UInt8), (7:UInt8), (7:UInt8), (7:UInt8), (7:UInt8), (7:UInt8), (7:UInt8), (7:UInt8), (7:UInt8), (7:UInt8), (7:UInt8), (7:UInt8), (7:UInt8), (7:UInt8), (7:UInt8), (7:UInt8), (7:UInt8), (7:UInt8), (7:UInt8), (7:UInt8), (7:UInt8), (7:UInt8), (7:UInt8), (7:UInt8), (7:UInt8), (7:UInt8), (7:UInt8), (7:UInt8)]) (List.append [(8:UInt8), (8:UInt8),
      (8:UInt8), (8:UInt8), (8:UInt8), (8:UInt8), (8:UInt8), (8:UInt8), (8:UInt8), (8:UInt8), (8:UInt8), (8:UInt8), (8:UInt8), (8:UInt8), (8:UInt8), (8:UInt8), (8:UInt8), (8:UInt8), (8:UInt8), (8:UInt8), (8:UInt8), (8:UInt8), (8:UInt8), (8:UInt8), (8:UInt8), (8:UInt8), (8:UInt8), (8:UInt8), (8:UInt8), (8:UInt8), (8:UInt8), (8:UInt8), (8:UInt8), (8:UInt8), (8:UInt8), (8:UInt8), (8:UInt8), (8:UInt8),
      (8:UInt8), (8:UInt8), (8:UInt8), (8:UInt8), (8:UInt8), (8:UInt8), (8:UInt8), (8:UInt8), (8:UInt8), (8:UInt8), (8:UInt8), (8:UInt8), (8:UInt8), (8:UInt8), (8:UInt8), (8:UInt8), (8:UInt8), (8:UInt8), (8:UInt8), (8:UInt8), (8:UInt8), (8:UInt8), (8:UInt8), (8:UInt8), (8:UInt8), (8:UInt8)] [(8:UInt8), (8:UInt8), (8:UInt8), (8:UInt8), (8:UInt8), (8:UInt8), (8:UInt8), (8:UInt8), (8:UInt8), (8:UInt8),
      (8:UInt8), (8:UInt8), (8:UInt8), (8:UInt8), (8:UInt8), (8:UInt8), (8:UInt8), (8:UInt8), (8:UInt8), (8:UInt8), (8:UInt8), (8:UInt8), (8:UInt8), (8:UInt8), (8:UInt8), (8:UInt8), (8:UInt8), (8:UInt8), (8:UInt8), (8:UInt8), (8:UInt8), (8:UInt8), (8:UInt8), (8:UInt8), (8:UInt8), (8:UInt8), (8:UInt8), (8:UInt8), (8:UInt8), (8:UInt8), (8:UInt8), (8:UInt8), (8:UInt8), (8:UInt8), (8:UInt8), (8:UInt8),
      (8:UInt8), (8:UInt8), (8:UInt8), (8:UInt8), (8:UInt8), (8:UInt8), (8:UInt8), (8:UInt8), (8:UInt8), (8:UInt8), (8:UInt8), (8:UInt8), (8:UInt8), (8:UInt8), (8:UInt8), (8:UInt8), (8:UInt8), (8:UInt8)]))):Int)∧∀ (v1:Int), v1=IntKind.i64.wrap ((0:Int)+IntKind.i64.wrap (↑(UInt8.toNat (List.getD (List.append (List.append [0, (1:UInt8), (2:UInt8), (2:UInt8), (3:UInt8), (3:UInt8), (3:UInt8), (3:UInt8),
      (4:UInt8), (4:UInt8), (4:UInt8), (4:UInt8), (4:UInt8), (4:UInt8), (4:UInt8), (4:UInt8), (5:UInt8), (5:UInt8), (5:UInt8), (5:UInt8), (5:UInt8), (5:UInt8), (5:UInt8), (5:UInt8), (5:UInt8), (5:UInt8), (5:UInt8), (5:UInt8), (5:UInt8), (5:UInt8), (5:UInt8), (5:UInt8), (6:UInt8), (6:UInt8), (6:UInt8), (6:UInt8), (6:UInt8), (6:UInt8), (6:UInt8), (6:UInt8), (6:UInt8), (6:UInt8), (6:UInt8), (6:UInt8),
      (6:UInt8), (6:UInt8), (6:UInt8), (6:UInt8), (6:UInt8), (6:UInt8), (6:UInt8), (6:UInt8), (6:UInt8), (6:UInt8), (6:UInt8), (6:UInt8), (6:UInt8), (6:UInt8), (6:UInt8), (6:UInt8), (6:UInt8), (6:UInt8), (6:UInt8), (6:UInt8)] [(7:UInt8), (7:UInt8), (7:UInt8), (7:UInt8), (7:UInt8), (7:UInt8), (7:UInt8), (7:UInt8), (7:UInt8), (7:UInt8), (7:UInt8), (7:UInt8), (7:UInt8), (7:UInt8), (7:UInt8), (7:UInt8),
      (7:UInt8), (7:UInt8), (7:UInt8), (7:UInt8), (7:UInt8), (7:UInt8), (7:UInt8), (7:UInt8), (7:UInt8), (7:UInt8), (7:UInt8), (7:UInt8), (7:UInt8), (7:UInt8), (7:UInt8), (7:UInt8), (7:UInt8), (7:UInt8), (7:UInt8), (7:UInt8), (7:UInt8), (7:UInt8), (7:UInt8), (7:UInt8), (7:UInt8), (7:UInt8), (7:UInt8), (7:UInt8), (7:UInt8), (7:UInt8), (7:UInt8), (7:UInt8), (7:UInt8), (7:UInt8), (7:UInt8), (7:UInt8),
      (7:UInt8), (7:UInt8), (7:UInt8), (7:UInt8), (7:UInt8), (7:UInt8), (7:UInt8), (7:UInt8), (7:UInt8), (7:UInt8), (7:UInt8), (7:UInt8)]) (List.append [(8:UInt8), (8:UInt8), (8:UInt8), (8:UInt8), (8:UInt8), (8:UInt8), (8:UInt8), (8:UInt8), (8:UInt8), (8:UInt8), (8:UInt8), (8:UInt8), (8:UInt8), (8:UInt8), (8:UInt8), (8:UInt8), (8:UInt8), (8:UInt8), (8:UInt8), (8:UInt8), (8:UInt8), (8:UInt8), (8:UInt8),
      (8:UInt8), (8:UInt8), (8:UInt8), (8:UInt8), (8:UInt8), (8:UInt8), (8:UInt8), (8:UInt8), (8:UInt8), (8:UInt8), (8:UInt8), (8:UInt8), (8:UInt8), (8:UInt8), (8:UInt8), (8:UInt8), (8:UInt8), (8:UInt8), (8:UInt8), (8:UInt8), (8:UInt8), (8:UInt8), (8:UInt8), (8:UInt8), (8:UInt8), (8:UInt8), (8:UInt8), (8:UInt8), (8:UInt8), (8:UInt8), (8:UInt8), (8:UInt8), (8:UInt8), (8:UInt8), (8:UInt8), (8:UInt8),
      (8:UInt8), (8:UInt8), (8:UInt8), (8:UInt8), (8:UInt8)] [(8:UInt8), (8:UInt8), (8:UInt8), (8:UInt8), (8:UInt8), (8:UInt8), (8:UInt8), (8:UInt8), (8:UInt8), (8:UInt8), (8:UInt8), (8:UInt8), (8:UInt8), (8:UInt8), (8:UInt8), (8:UInt8), (8:UInt8), (8:UInt8), (8:UInt8), (8:UInt8), (8:UInt8), (8:UInt8), (8:UInt8), (8:UInt8), (8:UInt8), (8:UInt8), (8:UInt8), (8:UInt8), (8:UInt8), (8:UInt8), (8:UInt8),
      (8:UInt8), (8:UInt8), (8:UInt8), (8:UInt8), (8:UInt8), (8:UInt8), (8:UInt8), (8:UInt8), (8:UInt8), (8:UInt8), (8:UInt8), (8:UInt8), (8:UInt8), (8:UInt8), (8:UInt8), (8:UInt8), (8:UInt8), (8:UInt8), (8:UInt8), (8:UInt8), (8:UInt8), (8:UInt8), (8:UInt8), (8:UInt8), (8:UInt8), (8:UInt8), (8:UInt8), (8:UInt8), (8:UInt8), (8:UInt8), (8:UInt8), (8:UInt8), (8:UInt8)])) (Int.toNat (IntKind.u8.wrap
      (IntKind.u64.wrap (↑(0:Nat):Int)))) 0)):Int))→True) (by kernel_rfl) ?_
  exact ⟨by decide, by decide, fun _ _ => trivial⟩
/-! ### any slice -/
/-- The first n, sorted; the others as they are. -/
def sortL (n : Nat) (f : Nat → Int) : List Int := ((List.range n).map f).mergeSort fun x y => decide (x ≤ y)
theorem sortL_len (n : Nat) (f : Nat → Int) : (sortL n f).length = n := by
  unfold sortL
  rw [List.length_mergeSort, List.length_map, List.length_range]
def sortF (n : Nat) (f : Nat → Int) (k : Nat) : Int := if k < n then (sortL n f).getD k 0 else f k
abbrev aOwn64 : ArgL (OwnD Int × Unit) := .cons (.orow 3 (.int .i64)) .nil
def sortC := ecU aOwn64 (fun x => [x.1.n ≤ x.1.m, x.1.n ≤ 1000000, x.1.z = true ∨ x.1.ez = false]) (fun _ (_ : Unit) => True) (fun x _ => ({ x.1 with f := sortF x.1.n x.1.f }, ())) (fun _ _ => .tup [])
theorem sort_sat {C : Ctx} {w : World} {b off m n cap : Nat} {t : TypeId} {f : Nat → Int} (hS : Sat C [⟨0, b, off, 1, m, fun k => .int .i64 (f k), true, false, cap, t, false, none⟩] w) (hn : n ≤ m) (ds : List Int) (hl : ds.length = n) (n' : Nat) (os : Array Obj) :
    Sat C [⟨0, b, off, 1, m, fun k => .int .i64 (if k < n then ds.getD k 0 else f k), true, false, cap, t, false, none⟩] (Sort.grow (Sort.putRow (Value.int .i64) (Sort.ahead w n') b off ds.toArray) os) := by
  have hE := hS.ents _ (List.mem_singleton.2 rfl)
  obtain ⟨o1, o2, cs, fz, o3, o4, o5⟩ := hE.ow rfl rfl rfl
  dsimp only at o1 o2 o3 o4
  have hlt : b < w.heap.size := (Array.getElem?_eq_some_iff.1 o3).1
  have hh : ∀ k, k < w.heap.size → (Sort.grow (Sort.putRow (Value.int .i64) (Sort.ahead w n') b off ds.toArray) os).heap[k]? = if k = b then some (.cells (Sort.putCells (Value.int .i64) off ds.toArray cs) t fz) else w.heap[k]? := fun k hk => by
    rw [Sort.heap_grow_old _ _ (by simpa using hk)]
    unfold Sort.putRow Sort.mapBlock
    dsimp only
    rw [Array.getElem?_modify]
    by_cases q : k = b
    · subst q
      rw [if_pos rfl, if_pos rfl, Sort.heap_ahead, o3]
      rfl
    · rw [if_neg q, if_neg (fun q' => q q'.symm), Sort.heap_ahead]
  have hb := hh b hlt
  rw [if_pos rfl] at hb
  have hsz : (Sort.putCells (Value.int .i64) off ds.toArray cs).size = cs.size := by simp [Sort.putCells]
  refine ⟨⟨hS.kept.os, hS.kept.tape, hS.kept.output, by rw [Sort.size_grow, Sort.size_putRow]; exact Nat.le_trans hS.kept.size (Nat.le_add_right _ _), fun k hk hM => ?_⟩, fun e he => ?_, List.pairwise_singleton _ _⟩
  · rw [hh k (Nat.lt_of_lt_of_le hk hS.kept.size), if_neg]
    · exact hS.kept.block k hk hM
    · rintro rfl
      rcases o1 with q | q
      · omega
      · exact hM q
  · rw [List.mem_singleton] at he
    subst he
    refine ⟨(fun q => by cases q), (fun q => by cases q), (fun q => by cases q), fun _ _ _ => ⟨o1, o2, _, fz, hb, by rw [hsz]; exact o4, by rw [hsz]; exact o5⟩, (fun f q => by cases q), (fun f q => by cases q), fun i hi => ⟨.inl trivial, rfl, rfl, fun k hk => ?_⟩⟩
    dsimp only at hi ⊢
    have hk : k = 0 := by
      have : k < 1 := hk
      omega
    subst hk
    have hr := (hE.row i hi).2.2.2 0 (by show 0 < 1; omega)
    dsimp only at hr
    simp only [World.cell?, o3, Option.isSome_none, Bool.false_eq_true, if_false, Nat.mul_one, Nat.add_zero] at hr
    simp only [World.cell?, hb, Option.isSome_none, Bool.false_eq_true, if_false, Nat.mul_one, Nat.add_zero]
    simp only [Sort.putCells, Array.getElem?_mapIdx, hr]
    simp only [SV.flat, List.getElem?_cons_zero, Option.map_some, List.size_toArray, hl]
    by_cases q : i < n
    · rw [if_pos (by omega), if_pos q, show off + i - off = i by omega]
      congr 2
      rw [getElem!_pos _ _ (by simpa [hl] using q)]
      simp [List.getD, hl, q]
    · rw [if_neg (by omega), if_neg q]
theorem sort_ok : EcOk Tryz.prog 76 sortC := by
  refine ecC_hand (goFn_of Tryz.func76 rfl rfl) (fun ⟨⟨b, off, n, c, z, m, cap, ez, f⟩, ()⟩ hp hw C w hS => ?_) (fun x y e he => by
    rw [show _ = List.filter _ _ from owned_eq _] at he
    simpa using (List.mem_filter.1 he).2)
  obtain ⟨p1, p2, p3, _⟩ := hp
  dsimp only at p1 p2 p3
  have hsw := hw _ (List.mem_cons_self ..)
  cases z with
  | true =>
    obtain ⟨n0, c0⟩ := hsw.1 rfl
    dsimp only at n0 c0
    subst n0 c0
    have hN := sortN_ok [.slice 0 b off [] 1 0 0 0 true] [⟨0, b, off, 1, m, fun k => .int .i64 (f k), true, false, cap, 3, ez, none⟩] _ _ rfl (fun x hx => by rw [List.mem_singleton.1 hx]; exact hsw) ⟨rfl, trivial⟩ ⟨C, w, hS⟩
    refine (hN.2.2 C w hS).mono ?_
    rintro e w' ⟨rfl, h2⟩
    refine ⟨(), trivial, trivial, rfl, ?_⟩
    have : (fun k => SV.int .i64 (sortF 0 f k)) = fun k => SV.int .i64 (f k) := by funext k; unfold sortF; rw [if_neg (Nat.not_lt_zero k)]
    show Sat C [⟨0, b, off, 1, m, fun k => SV.int .i64 (sortF 0 f k), true, false, cap, 3, ez, none⟩] w'
    rw [this]
    exact h2
  | false =>
    rcases p3 with p3 | p3
    · cases p3
    subst p3
    have hS : Sat C [⟨0, b, off, 1, m, fun k => .int .i64 (f k), true, false, cap, 3, false, none⟩] w := hS
    have hE := hS.ents _ (List.mem_singleton.2 rfl)
    obtain ⟨o1, o2, cs, fz, o3, o4, o5⟩ := hE.ow rfl rfl rfl
    dsimp only at o1 o2 o3 o4
    have hlt : b < w.heap.size := (Array.getElem?_eq_some_iff.1 o3).1
    have hl : ((List.range n).map f).length = n := by simp
    have hH : Sort.Holds (Value.int .i64) w b off ((List.range n).map f).toArray := fun j hj => by
      have hj : j < n := by simpa using hj
      have hr := (hE.row j (Nat.lt_of_lt_of_le hj p1)).2.2.2 0 (by show 0 < 1; omega)
      dsimp only at hr
      simp only [SV.flat, Nat.mul_one, Nat.add_zero, List.getElem?_cons_zero] at hr
      refine ⟨?_, ?_⟩
      · rw [hr, getElem!_pos _ _ (by simpa using hj)]
        simp
      · simp only [World.frozen?, o3]
        have := o5 (off + j) (by omega)
        simpa using this
    have hc := Go.Proofs.Any.slices_Sort_int Srt.lays b off c ((List.range n).map f) w hH hlt (by rw [hl]; omega)
    have e2 : Srt.ren.f 189 = 76 := rfl
    have e1 : (SV.denL (aOwn64.svs 0 (⟨b, off, n, c, false, m, cap, false, f⟩, ()))).toArray = #[.slice (some ⟨b, off, none⟩) ((List.range n).map f).length c] := by
      rw [hl]
      show #[Value.slice (some ⟨b, off + (0 + 0 * 1), none⟩) n c] = _
      rfl
    rw [e2] at hc
    rw [e1]
    refine hc.mono ?_
    rintro e w' ⟨rfl, n', os, rfl⟩
    exact ⟨(), trivial, trivial, rfl, sort_sat hS p1 (sortL n f) (sortL_len n f) n' os⟩
end Rc
