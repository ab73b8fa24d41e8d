/-
  OWN WORK. Marker: the law MarkerFinds at any length; its arguments are opened.
-/
import Derived.Test.YtacncciippjbpaaDoorKL
import Derived.Test.YtacncciippjbpaaDoorEngO
namespace Mk
open Go Go.Proofs Eng
set_option linter.unusedVariables false
set_option linter.unusedSimpArgs false
set_option maxRecDepth 100000
set_option maxHeartbeats 8000000

abbrev RowR (x : RowD Int × Option Nat) : Prop := x.1.n ≤ x.1.c ∧ x.1.c * 8 ≤ 140737488351232 ∧ (∀ i, i < x.1.n → inKind .i64 (x.1.f i)) ∧ (0 < x.1.n → x.2 = none)
abbrev PartR (p : PtD) : Prop := True ∧ RowR p.2.1 ∧ RowR p.2.2.1 ∧ inKind .i64 p.2.2.2.1 ∧ True
abbrev IntsR (x : RowD Int) : Prop := x.n ≤ x.c ∧ x.c * 8 ≤ 140737488351232 ∧ ∀ i, i < x.n → inKind .i64 (x.f i)
abbrev PartsR (x : RowD PtD) : Prop := x.n ≤ x.c ∧ x.c * 64 ≤ 140737488351232 ∧ ∀ i, i < x.n → PartR (x.f i)
abbrev FindsR (x : RowD PtD × Int × RowD Int × Unit) : Prop := PartsR x.1 ∧ inKind .i64 x.2.1 ∧ IntsR x.2.2.1 ∧ True
section
variable {H : Type} {enc : TypeId × Value → H}
theorem opPart (W : World) : OpF enc Tryd.prog W 71 ePart PartR (fun p => True ∧ rowIn W (.int .i64) p.2.1 ∧ rowIn W (.int .i64) p.2.2.1 ∧ True ∧ True) :=
  .agg (l := [(4, 0), (29, 1), (29, 2), (3, 3)]) (tot := 4) (by kernel_rfl) (by kernel_rfl) rfl
    (.cons (.elt (.bool (by kernel_rfl) (by kernel_rfl))) (off' := 1) rfl
    (.cons (.wrow (e := 3) (by kernel_rfl) (.int (by kernel_rfl) (by kernel_rfl)) (by kernel_rfl) (by kernel_rfl) Nat.one_pos) (off' := 2) rfl
    (.cons (.wrow (e := 3) (by kernel_rfl) (.int (by kernel_rfl) (by kernel_rfl)) (by kernel_rfl) (by kernel_rfl) Nat.one_pos) (off' := 3) rfl
    (.cons (.elt (.int (by kernel_rfl) (by kernel_rfl))) (off' := 4) rfl .nil))))
theorem opParts (W : World) (base : Nat) : OpA enc Tryd.prog W base 28 [28] (.rowF ePart) PartsR :=
  .rowF (e := 71) (by kernel_rfl) (opPart W) (by kernel_rfl) (by kernel_rfl)
theorem findsTop (W : World) (base : Nat) : OpTop enc Tryd.prog W base Tryd.f4.params.toList aFinds FindsR :=
  .cons (opParts W base) (.inr ⟨notStruct (by kernel_rfl), notArray (by kernel_rfl), rfl, fun _ _ => rfl⟩)
    (.cons (.elt (ct := [3]) (.int (by kernel_rfl) (by kernel_rfl)) (by kernel_rfl)) (.inr ⟨notStruct (by kernel_rfl), notArray (by kernel_rfl), rfl, fun _ _ => rfl⟩)
    (.cons (.row (e := 3) (by kernel_rfl) (.int (by kernel_rfl) (by kernel_rfl)) (by kernel_rfl) (by kernel_rfl)) (.inr ⟨notStruct (by kernel_rfl), notArray (by kernel_rfl), rfl, fun _ _ => rfl⟩) .nil))
end
theorem parts_ok {x : RowD PtD} (h : PartsR x) : ∀ i, i < x.n → ptOk (x.f i) := fun i hi => by
  obtain ⟨_, _, h⟩ := h
  obtain ⟨_, h1, h2, _⟩ := h i hi
  exact ⟨h1.2.2.2, h2.2.2.2⟩
def findsE (x : RowD PtD × Int × RowD Int × Unit) : Env := if 1 ≤ x.2.1 then EFC else EFD
theorem findsE_ok (x : RowD PtD × Int × RowD Int × Unit) : EnvOk Tryd.prog (findsE x) := by
  unfold findsE
  split
  · exact EFC_ok
  · exact EFD_ok
def findsAn (x : RowD PtD × Int × RowD Int × Unit) : List An := if 1 ≤ x.2.1 then [.raw 3, .raw 4, .raw 5, .det 6, .loop ⟨9, GX, [7, 9, 11, 12], gVals, [4, 5, 6, 7, 8, 9], gEnts, gInv x.2.1 x.2.2.1.n, fun y => x.2.2.1.n + 1 - y.2.2.2.1⟩, .same 14, .join ⟨14, GX × Nat, [7, 9, 11, 12, 13], fun y => gVals y.1 ++ [.int .i64 (y.2 : Nat)], [200, 201, 202, 300, 301, 400], fun y => gEnts y.1, fun y => gInv x.2.1 x.2.2.1.n y.1 ∧ y.2 ≤ y.1.2.2.2.2.2.1 ∧ 0 < y.1.2.2.2.2.2.1 ∧ (y.1.2.2.2.1 = x.2.2.1.n → y.2 = y.1.2.2.2.2.2.1), fun _ => 0⟩ 600, .draw 17 (.take 0 (.take 1 (.take 2 (.take 3 (.take 4 (.take 5 (.take 6 (.take 7 (.take 8 (.take 9 (.take 10 (.take 11 (.take 12 (.take 13 (.take 14 (.take 15 (.take 16 (.take 17 (.take 18 (.take 19 (.take 20 (.take 21 (.take 22 (.take 23 (.take 24 (.take 25 (.take 26 (.take 27 (.take 28 (.take 29 (.take 30 (.take 31 (.take 32 (.take 33 (.take 34 (.take 35 .fin)))))))))))))))))))))))))))))))))))) [], .loop ⟨20, OX, [14, 19], fun y => [.slice 500 y.2.2.2.1.1 y.2.2.2.1.2.1 [] 1 0 y.2.1 y.2.2.2.1.2.2 false, .int .i64 (y.1 : Nat)], [600], fun y => [⟨500, y.2.2.2.1.1, y.2.2.2.1.2.1, 1, y.2.2.1, fun i => .int .i64 (y.2.2.2.2 i), true, false, y.2.2.2.1.2.2, 3, false, none⟩], fun y => y.1 ≤ y.2.1 ∧ y.2.1 ≤ y.2.2.1 ∧ y.2.2.1 ≤ y.2.2.2.1.2.2 ∧ y.2.1 ≤ 10000, fun y => y.2.1 - y.1⟩] else [.raw 3, .raw 4, .raw 5, .raw 6, .sure 5, .sure 6, .det 6]
theorem finds_walk : ∀ (x : RowD PtD × Int × RowD Int × Unit), FindsR x → (∀ v ∈ aFinds.svs 0 x, v.wf) → exCode (findsE x) Tryd.f4.ntmps (findsAn x)
    (match Tryd.f4.body with | some c => c | none => .skip) (argFr 0 (aFinds.svs 0 x)) (aFinds.hp 0 x) aFinds.tags (atEnd (findsE x) Tryd.f4.results.toList fun r _ _ => eqv r (.bool true)) := by
  intro x hR hw
  by_cases h : 1 ≤ x.2.1
  · rw [show findsE x = EFC from if_pos h, show findsAn x = _ from if_pos h]
    exact findsA_walk x (parts_ok hR.1) hw h
  · rw [show findsE x = EFD from if_neg h, show findsAn x = _ from if_neg h]
    exact findsB_walk x (parts_ok hR.1) hw (by omega)
end Mk
