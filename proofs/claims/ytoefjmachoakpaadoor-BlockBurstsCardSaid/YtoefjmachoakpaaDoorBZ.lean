/-
  OWN WORK. Block: Pick.
-/
import Derived.Test.YtoefjmachoakpaaDoorBI
namespace Galois
open Go Go.Proofs Eng
set_option linter.unusedVariables false
set_option linter.unusedSimpArgs false
set_option maxHeartbeats 8000000
set_option maxRecDepth 100000

def pickF (x n : Int) : Int := if IntKind.i64.wrap (x.tmod n) < 0 then IntKind.i64.wrap (IntKind.i64.wrap (x.tmod n) + n) else IntKind.i64.wrap (x.tmod n)
abbrev aPick : ArgL (Int × Int × Unit) := .cons (.elt (.int .i64)) (.cons (.elt (.int .i64)) .nil)
def pick := pcOf aPick (fun x => [0 < x.2.1, x.2.1 ≤ 1000000]) (fun x => .int .i64 (pickF x.1 x.2.1))
theorem pick_ok : PcOk Tryd.prog 14 pick := by
  refine pcOf_run (fun _ => E0_ok) Tryd.func14 rfl (by kernel_rfl) (fun _ => trivial) (fun _ => []) (fun _ => Nat.le_of_ble_eq_true rfl) (fun ⟨x, n, ()⟩ hp hw0 => ?_)
  refine vc_of (q :=
      n ≠ (0 : Int) ∧ ∀ (v1 : Int), v1 = Int.tmod x n → (decide (v1 < (0 : Int)) = true → ∀ (v2 : Int), v2 = IntKind.i64.wrap (v1 + n) → v2 = pickF x n) ∧ (decide (v1 < (0 : Int)) = false → v1 = pickF x n)) (by kernel_rfl) ?_
  simp
  have this : 0 < n := hp.1
  have hn : n ≤ 1000000 := hp.2.1
  have h1 : x.tmod n < n := Int.tmod_lt_of_pos x this
  have h2 : -n < x.tmod n := Int.lt_tmod_of_pos x this
  have hh : IntKind.i64.wrap (x.tmod n) = x.tmod n := w64_id (by omega) (by omega)
  refine ⟨by omega, fun h => ?_, fun h => ?_⟩
  · simp only [pickF, hh]; rw [if_pos h]
  · simp only [pickF, hh]; rw [if_neg (by omega)]
theorem pick_range (x : Int) {n : Int} (h0 : 0 < n) (hn : n ≤ 1000000) : 0 ≤ pickF x n ∧ pickF x n < n := by
  have h1 : x.tmod n < n := Int.tmod_lt_of_pos x h0
  have h2 : -n < x.tmod n := Int.lt_tmod_of_pos x h0
  unfold pickF
  rw [w64_id (x := x.tmod n) (by omega) (by omega)]
  split
  · rw [w64_id (by omega) (by omega)]; omega
  · omega
end Galois
