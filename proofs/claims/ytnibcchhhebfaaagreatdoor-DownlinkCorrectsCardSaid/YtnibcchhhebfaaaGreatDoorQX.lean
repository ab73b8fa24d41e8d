/-
  OWN WORK. Marker: a finder's walk over one block.
-/
import Derived.Test.YtnibcchhhebfaaaGreatDoorK5
namespace Mk
open Go Go.Proofs Eng
set_option linter.unusedVariables false
set_option linter.unusedSimpArgs false
set_option maxRecDepth 100000
set_option maxHeartbeats 4000000
/-! ### a contract for less -/
theorem ecC_less {P : Program} {α Y Y' : Type} {L : ArgL α} {pre pre' : α → List Prop} {post : α → Y → Prop} {res : α → Y → SV} {ents : α → Y → Hp} {post' : α → Y' → Prop} {res' : α → Y' → SV} {ents' : α → Y' → Hp} {k : Nat} {f : FuncId}
    (h : EcOk P f (ecC L pre post res ents k)) (hp : ∀ x, allT (pre' x) → allT (pre x) ∧ ∀ y, post x y → ∃ y', post' x y' ∧ res x y = res' x y' ∧ ents x y = ents' x y') : EcOk P f (ecC L pre' post' res' ents' k) := by
  intro args H nx K hc hw
  refine h args H nx K ?_ hw
  unfold ecC at hc ⊢
  split at hc
  · rename_i ps x hx
    split at hc
    · rw [allL_iff] at hc ⊢
      refine ⟨hc.1, fun x' hx' => ?_⟩
      have h2 := hc.2 x' hx'
      rw [allL_iff] at h2 ⊢
      obtain ⟨q1, q2⟩ := hp x' ((pOb_true _).1 h2.1)
      refine ⟨(pOb_true _).2 q1, fun y hy => ?_⟩
      obtain ⟨y', p1, p2, p3⟩ := q2 y hy
      rw [p2, p3]
      exact h2.2 y' p1
    · exact hc.elim
  · exact hc.elim
/-- .. whose data get no name. -/
def ecR {α Y : Type} (L : ArgL α) (pre : α → List Prop) (post : α → Y → Prop) (res : α → Y → SV) (ents : α → Y → Hp) (k : Nat) : List SV → Hp → Nat → (SV → Hp → Nat → Prop) → Prop := fun args H nx K =>
  match L.get args H with
  | some (ps, x) => match apartB (L.rt args H) (sndL (L.om 0 args H)) with
    | true => allL ps (allL (pOb (pre x)) (∀ y, post x y → K ((res x y).rt (tau (L.om 0 args H ++ L.rm 0 args H) L.tags nx)) (Hp.app (Hp.rt (tau (L.om 0 args H ++ L.rm 0 args H) L.tags nx) (ents x y)) (Hp.minus (sndL (L.om 0 args H)) H)) (nx + k)))
    | false => False
  | none => False
theorem ecR_of {P : Program} {α Y : Type} {L : ArgL α} {pre : α → List Prop} {post : α → Y → Prop} {res : α → Y → SV} {ents : α → Y → Hp} {k : Nat} {f : FuncId} (h : EcOk P f (ecC L pre post res ents k)) : EcOk P f (ecR L pre post res ents k) := by
  intro args H nx K hc hw
  refine h args H nx K ?_ hw
  unfold ecC
  unfold ecR at hc
  split at hc
  · rename_i ps x hx
    split at hc
    · rename_i hB
      simp only [hx, hB]
      rw [allL_iff] at hc ⊢
      exact ⟨hc.1, fun x' hx' => hx' ▸ hc.2⟩
    · exact hc.elim
  · exact hc.elim
/-- What examine does where the marker is at the place. -/
def FD.found (d : FD) : FD := FD.mk d.1 d.2.1 d.sb d.so d.tk true d.len (FD.cut d.l 0) (d.pl + ((0 : Nat) : Int)) true (wrA (FD.cut d.l 0).f 0 : Nat) 0 d.gv
def examB0 := ecU aF (fun x => [x.1.ok, x.1.lk = true, x.1.ms < 3, x.1.l.n < 32]) (fun _ (_ : Unit) => True) (fun x _ => (x.1.adv 0, ())) (fun _ _ => .bool false)
theorem wrA_cut0 (l : OwnD Int) (k : Nat) : wrA (FD.cut l 0).f k = wrA l.f k := wr_congr fun i _ => by
  show (if k + i < l.n - 0 then l.f (k + i + 0) else l.f (k + i)) = _
  split <;> rfl
theorem examB0_ok : EcOk Tryz.prog 68 examB0 := by
  refine ecC_less examine_ok fun x hp => ?_
  obtain ⟨h1, h2, h3, h4, _⟩ := hp
  refine ⟨⟨h1, .inl h3, trivial⟩, fun y hy => ⟨(), trivial, ?_⟩⟩
  obtain ⟨k, hk, hy⟩ := hy
  rw [if_pos h2] at hk
  subst hk
  rw [if_pos (by show x.1.l.n - 0 < 32; omega)] at hy
  subst hy
  exact ⟨rfl, rfl⟩
def examB := ecR aF (fun x => [x.1.ok, x.1.lk = true, x.1.ms < 3, x.1.l.n < 32]) (fun _ (_ : Unit) => True) (fun _ _ => .bool false) (fun x y => Hp.owned (aF.hp 0 (x.1.adv 0, ()))) 0
theorem examB_ok : EcOk Tryz.prog 68 examB := ecR_of examB0_ok
def cloneR := ecR aRow (fun x => [x.1.z = false, x.1.n * 8 ≤ 140737488355328]) (fun x (y : Nat × Nat × Nat) => x.1.n ≤ y.2.2 ∧ y.2.2 ≤ 9223372036854775807) (fun x y => .slice 1 y.1 y.2.1 [] 1 0 x.1.n y.2.2 false) (fun x y => [⟨1, y.1, y.2.1, 1, x.1.n, fun k => .int .i64 (x.1.f k), true, false, y.2.2, 3, false, none⟩]) 1
theorem cloneR_ok : EcOk Tryz.prog 69 cloneR := ecR_of clone_ok
end Mk
