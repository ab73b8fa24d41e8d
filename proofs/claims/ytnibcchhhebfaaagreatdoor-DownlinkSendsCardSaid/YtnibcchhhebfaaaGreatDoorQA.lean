/-
  OWN WORK. A block of two bytes: encoded.
-/
import Derived.Test.YtnibcchhhebfaaaGreatDoorB2
import Derived.Test.YtnibcchhhebfaaaGreatDoorQ1
namespace Vt
open Go Go.Proofs Eng
set_option linter.unusedVariables false
set_option linter.unusedSimpArgs false
set_option maxHeartbeats 8000000
set_option maxRecDepth 100000
def rds : Nat → List An
  | 0 => []
  | n + 1 => .raw (n + 1) :: .det (n + 1) :: .sure (n + 1) :: rds n
abbrev aS : ArgL (List UInt8 × Unit) := .cons (.elt .str) .nil
abbrev aSI : ArgL (List UInt8 × Int × Unit) := .cons (.elt .str) (.cons (.elt (.int .i64)) .nil)
def blkAB : List UInt8 := [97, 98, 25, 217, 34, 14, 179, 192, 214, 74]
theorem encL_ab : Galois.encL [97, 98] = blkAB := by
  unfold Galois.encL Galois.parP Galois.parR
  rw [Galois.gpoly_eq]
  decide +kernel
theorem allTrue_app : ∀ {l m : List Ob}, allTrue l → allTrue m → allTrue (l ++ m)
  | [], _, _, h => h
  | .c _ :: _, _, h, h' => ⟨h.1, allTrue_app h.2 h'⟩
  | .p _ :: _, _, h, h' => ⟨h.1, allTrue_app h.2 h'⟩
theorem pc_less {P : Program} {α : Type} {L : ArgL α} {pre pre' : α → List Prop} {res res' : α → SV} {f : FuncId} (h : PcOk P f (pcOf L pre res)) (hp : ∀ x, allT (pre' x) → allT (pre x) ∧ res x = res' x) : PcOk P f (pcOf L pre' res') := by
  intro args H ps v hc hw hp' hex
  unfold pcOf at hc
  split at hc
  · rename_i qs x hx
    simp only [Option.some.injEq, Prod.mk.injEq] at hc
    obtain ⟨rfl, rfl⟩ := hc
    obtain ⟨a1, a2⟩ := allTrue_append hp'
    obtain ⟨b1, b2⟩ := hp x ((pOb_true _).1 a2)
    rw [← b2]
    exact h args H (qs ++ pOb (pre x)) (res x) (by unfold pcOf; rw [hx]) hw (allTrue_app a1 ((pOb_true _).2 b1)) hex
  · cases hc
def encAB := pcOf aS (fun x => [x.1 = [97, 98]]) (fun _ => .tup [.str blkAB, .int .i64 0])
theorem encAB_ok : PcOk Tryz.prog 80 encAB := pc_less Galois.enc_ok fun x hp => by
  obtain ⟨s, u⟩ := x
  have h1 : s = [97, 98] := hp.1
  subst h1
  refine ⟨trivial, ?_⟩
  show SV.tup [.str (Galois.encL [97, 98]), .int .i64 (Galois.encE [97, 98])] = _
  rw [encL_ab]
  rfl
end Vt
