/-
  OWN WORK. A block of two bytes: encoded.
-/
import Derived.Test.YtnibcchhhebfaaaGreatDoorB2
import Derived.Test.YtnibcchhhebfaaaGreatDoorQ2
namespace Vt
open Go Go.Proofs Eng
set_option linter.unusedVariables false
set_option linter.unusedSimpArgs false
set_option maxHeartbeats 8000000
set_option maxRecDepth 100000
def rds : Nat → List An
  | 0 => []
  | n + 1 => .raw (n + 1) :: .det (n + 1) :: .sure (n + 1) :: rds n
abbrev aS : ArgL (List UInt8 × Unit) := .cons (.elt .str) .nil
abbrev aSI : ArgL (List UInt8 × Int × Unit) := .cons (.elt .str) (.cons (.elt (.int .i64)) .nil)
end Vt
