/-
  OWN WORK. Units of the file protocol, in plain Lean.
-/
import Derived.Test.YtfmbmiiioojbeaaGreatLM
namespace Rc
open Go
set_option linter.unusedVariables false
set_option linter.unusedSimpArgs false
structure U where
  kind : Int
  number : Int
  name : List UInt8
  size : Int
  sum : Int
  offset : Int
  data : List UInt8
  why : Int
  of : Int
  me : Bool
  gaps : List (Int × Int)
deriving DecidableEq
/-- The last m bytes of a number. -/
def byN (n : Nat) : Nat → List UInt8
  | 0 => []
  | m + 1 => UInt8.ofNat (n / 256 ^ m % 256) :: byN n m
def byI (n : Int) (m : Nat) : List UInt8 := byN n.toNat m
theorem byN_len (n : Nat) : ∀ m, (byN n m).length = m
  | 0 => rfl
  | m + 1 => by simp [byN, byN_len n m]
theorem byI_len (n : Int) (m : Nat) : (byI n m).length = m := byN_len _ _
def numL : List UInt8 → Nat
  | [] => 0
  | b :: r => b.toNat * 256 ^ r.length + numL r
theorem numL_lt : ∀ l : List UInt8, numL l < 256 ^ l.length
  | [] => by simp [numL]
  | b :: r => by
    have h1 := numL_lt r
    have h2 : b.toNat ≤ 255 := by have := b.toNat_lt; omega
    simp only [numL, List.length_cons, Nat.pow_succ]
    have h3 : b.toNat * 256 ^ r.length ≤ 255 * 256 ^ r.length := Nat.mul_le_mul_right _ h2
    omega
theorem num_by : ∀ (m n : Nat), numL (byN n m) = n % 256 ^ m
  | 0, n => by simp [byN, numL, Nat.mod_one]
  | m + 1, n => by
    simp only [byN, numL, byN_len, num_by m n]
    have h1 : (UInt8.ofNat (n / 256 ^ m % 256)).toNat = n / 256 ^ m % 256 := by
      simp
    rw [h1, Nat.pow_succ, Nat.mod_mul, Nat.mul_comm (256 ^ m)]
    omega
theorem by_num : ∀ l : List UInt8, byN (numL l) l.length = l := by
  have key : ∀ (l : List UInt8) (h : Nat), byN (h * 256 ^ l.length + numL l) l.length = l := by
    intro l
    induction l with
    | nil => intro h; rfl
    | cons b r ih =>
      intro h
      simp only [byN, numL, List.length_cons]
      have hp : 0 < 256 ^ r.length := Nat.pow_pos (by decide)
      have e : h * 256 ^ (r.length + 1) + (b.toNat * 256 ^ r.length + numL r) = (h * 256 + b.toNat) * 256 ^ r.length + numL r := by
        rw [Nat.pow_succ, Nat.add_mul, Nat.mul_assoc h 256, Nat.mul_comm 256]; omega
      rw [e, ih]
      congr 1
      rw [Nat.add_comm, Nat.add_mul_div_right _ _ hp, Nat.div_eq_of_lt (numL_lt r), Nat.zero_add]
      apply UInt8.toNat_inj.1
      have := b.toNat_lt
      simp
  intro l
  have := key l 0
  simpa using this
theorem byN_num {l : List UInt8} {m : Nat} (h : l.length = m) : byN (numL l) m = l := by subst h; exact by_num l
/-- Gaps in order, behind a place. -/
def gapsOk : Int → List (Int × Int) → Prop
  | _, [] => True
  | last, g :: r => last < g.1 ∧ g.1 < g.2 ∧ g.2 ≤ 65535 ∧ gapsOk g.2 r
instance gapsDec : ∀ (last : Int) (l : List (Int × Int)), Decidable (gapsOk last l)
  | _, [] => .isTrue trivial
  | last, g :: r => by unfold gapsOk; exact @instDecidableAnd _ _ _ (@instDecidableAnd _ _ _ (@instDecidableAnd _ _ _ (gapsDec g.2 r)))
/-- What is kept of a unit of its kind. -/
def only (u : U) : U :=
  let o : U := ⟨u.kind, u.number, [], 0, 0, 0, [], 0, 0, false, []⟩
  if u.kind = 1 then { o with name := u.name, size := u.size }
  else if u.kind = 2 then { o with offset := u.offset, data := u.data }
  else if u.kind = 3 then { o with why := u.why, size := u.size, sum := u.sum }
  else if u.kind = 4 then { o with why := u.why }
  else if u.kind = 5 then { o with me := u.me, gaps := u.gaps }
  else if u.kind = 6 then { o with of := u.of }
  else o
def inR (x a b : Int) : Prop := a ≤ x ∧ x ≤ b
instance (x a b : Int) : Decidable (inR x a b) := by unfold inR; infer_instance
/-- What is asked of the fields that are kept. -/
def fitU (u : U) : Prop :=
  if u.kind = 1 then inR u.name.length 1 32 ∧ inR u.size 0 65535
  else if u.kind = 2 then inR u.data.length 1 160 ∧ inR u.offset 0 (65535 - u.data.length)
  else if u.kind = 3 then inR u.why 0 1 ∧ inR u.size 0 65535
  else if u.kind = 4 then inR u.why 0 4
  else if u.kind = 5 then gapsOk (-1) u.gaps ∧ u.gaps.length ≤ 20 ∧ (u.me = true ∨ 0 < u.gaps.length)
  else if u.kind = 6 then u.of = 3 ∨ u.of = 4
  else False
instance (u : U) : Decidable (fitU u) := by unfold fitU; infer_instance
def okU (u : U) : Prop := inR u.number 0 65535 ∧ fitU u ∧ only u = u
instance (u : U) : Decidable (okU u) := by unfold okU; infer_instance
def gapsL (l : List (Int × Int)) : List UInt8 := l.flatMap fun g => byI g.1 2 ++ byI g.2 2
def bodyU (u : U) : List UInt8 :=
  if u.kind = 1 then byI u.size 2 ++ u.name
  else if u.kind = 2 then byI u.offset 2 ++ u.data
  else if u.kind = 3 then byI u.why 1 ++ (byI u.size 2 ++ byI u.sum 4)
  else if u.kind = 4 then byI u.why 1
  else if u.kind = 5 then byI (if u.me then 1 else 0) 1 ++ gapsL u.gaps
  else byI u.of 1
def headU (u : U) : List UInt8 := byI u.kind 1 ++ (byI u.number 2 ++ bodyU u)
def sealL (b : List UInt8) : List UInt8 := b ++ byI (crc16 b) 2
def putU (u : U) : List UInt8 := if okU u then sealL (headU u) else []
def putE (u : U) : Int := if okU u then 0 else 2
end Rc
