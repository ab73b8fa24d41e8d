/-
  OWN WORK. Marker: a finder's walk over one block.
-/
import Derived.Test.YtnibcchhhebfaaaGreatDoorK5
namespace Mk
open Go Go.Proofs Eng
set_option linter.unusedVariables false
set_option linter.unusedSimpArgs false
set_option maxRecDepth 100000
set_option maxHeartbeats 4000000
/-! ### a contract for less -/
theorem ecC_less {P : Program} {α Y Y' : Type} {L : ArgL α} {pre pre' : α → List Prop} {post : α → Y → Prop} {res : α → Y → SV} {ents : α → Y → Hp} {post' : α → Y' → Prop} {res' : α → Y' → SV} {ents' : α → Y' → Hp} {k : Nat} {f : FuncId}
    (h : EcOk P f (ecC L pre post res ents k)) (hp : ∀ x, allT (pre' x) → allT (pre x) ∧ ∀ y, post x y → ∃ y', post' x y' ∧ res x y = res' x y' ∧ ents x y = ents' x y') : EcOk P f (ecC L pre' post' res' ents' k) := by
  intro args H nx K hc hw
  refine h args H nx K ?_ hw
  unfold ecC at hc ⊢
  split at hc
  · rename_i ps x hx
    split at hc
    · rw [allL_iff] at hc ⊢
      refine ⟨hc.1, fun x' hx' => ?_⟩
      have h2 := hc.2 x' hx'
      rw [allL_iff] at h2 ⊢
      obtain ⟨q1, q2⟩ := hp x' ((pOb_true _).1 h2.1)
      refine ⟨(pOb_true _).2 q1, fun y hy => ?_⟩
      obtain ⟨y', p1, p2, p3⟩ := q2 y hy
      rw [p2, p3]
      exact h2.2 y' p1
    · exact hc.elim
  · exact hc.elim
/-- .. whose data get no name. -/
def ecR {α Y : Type} (L : ArgL α) (pre : α → List Prop) (post : α → Y → Prop) (res : α → Y → SV) (ents : α → Y → Hp) (k : Nat) : List SV → Hp → Nat → (SV → Hp → Nat → Prop) → Prop := fun args H nx K =>
  match L.get args H with
  | some (ps, x) => match apartB (L.rt args H) (sndL (L.om 0 args H)) with
    | true => allL ps (allL (pOb (pre x)) (∀ y, post x y → K ((res x y).rt (tau (L.om 0 args H ++ L.rm 0 args H) L.tags nx)) (Hp.app (Hp.rt (tau (L.om 0 args H ++ L.rm 0 args H) L.tags nx) (ents x y)) (Hp.minus (sndL (L.om 0 args H)) H)) (nx + k)))
    | false => False
  | none => False
theorem ecR_of {P : Program} {α Y : Type} {L : ArgL α} {pre : α → List Prop} {post : α → Y → Prop} {res : α → Y → SV} {ents : α → Y → Hp} {k : Nat} {f : FuncId} (h : EcOk P f (ecC L pre post res ents k)) : EcOk P f (ecR L pre post res ents k) := by
  intro args H nx K hc hw
  refine h args H nx K ?_ hw
  unfold ecC
  unfold ecR at hc
  split at hc
  · rename_i ps x hx
    split at hc
    · rename_i hB
      simp only [hx, hB]
      rw [allL_iff] at hc ⊢
      exact ⟨hc.1, fun x' hx' => hx' ▸ hc.2⟩
    · exact hc.elim
  · exact hc.elim
/-- What examine does where the marker is at the place. -/
def FD.found (d : FD) : FD := FD.mk d.1 d.2.1 d.sb d.so d.tk true d.len (FD.cut d.l 0) (d.pl + ((0 : Nat) : Int)) true (wrA (FD.cut d.l 0).f 0 : Nat) 0 d.gv
def examA0 := ecU aF (fun x => [x.1.ok, x.1.lk = false, 32 ≤ x.1.l.n, wrA x.1.l.f 0 ≤ 2]) (fun _ (_ : Unit) => True) (fun x _ => (x.1.found, ())) (fun _ _ => .bool true)
def examB0 := ecU aF (fun x => [x.1.ok, x.1.lk = true, x.1.ms < 3, x.1.l.n < 32]) (fun _ (_ : Unit) => True) (fun x _ => (x.1.adv 0, ())) (fun _ _ => .bool false)
theorem wrA_cut0 (l : OwnD Int) (k : Nat) : wrA (FD.cut l 0).f k = wrA l.f k := wr_congr fun i _ => by
  show (if k + i < l.n - 0 then l.f (k + i + 0) else l.f (k + i)) = _
  split <;> rfl
theorem examA0_ok : EcOk Tryz.prog 68 examA0 := by
  refine ecC_less examine_ok fun x hp => ?_
  obtain ⟨h1, h2, h3, h4, _⟩ := hp
  refine ⟨⟨h1, .inr h2, trivial⟩, fun y hy => ⟨(), trivial, ?_⟩⟩
  obtain ⟨k, hk, hy⟩ := hy
  rw [if_neg (by rw [h2]; decide)] at hk
  obtain ⟨k1, k2, k3⟩ := hk
  have h0 : k = 0 := by
    rcases Nat.eq_zero_or_pos k with h | h
    · exact h
    · have := (k1 0 h).2; omega
  subst h0
  have hn : ¬ (x.1.adv 0).l.n < 32 := by show ¬ x.1.l.n - 0 < 32; omega
  rw [if_neg hn] at hy
  have hl : (x.1.adv 0).look = x.1.found := look1 (by show wrA (FD.cut x.1.l 0).f 0 ≤ 2; rw [wrA_cut0]; exact h4)
  rw [hl] at hy
  subst hy
  exact ⟨rfl, rfl⟩
theorem examB0_ok : EcOk Tryz.prog 68 examB0 := by
  refine ecC_less examine_ok fun x hp => ?_
  obtain ⟨h1, h2, h3, h4, _⟩ := hp
  refine ⟨⟨h1, .inl h3, trivial⟩, fun y hy => ⟨(), trivial, ?_⟩⟩
  obtain ⟨k, hk, hy⟩ := hy
  rw [if_pos h2] at hk
  subst hk
  rw [if_pos (by show x.1.l.n - 0 < 32; omega)] at hy
  subst hy
  exact ⟨rfl, rfl⟩
def examA := ecR aF (fun x => [x.1.ok, x.1.lk = false, 32 ≤ x.1.l.n, wrA x.1.l.f 0 ≤ 2]) (fun _ (_ : Unit) => True) (fun _ _ => .bool true) (fun x y => Hp.owned (aF.hp 0 (x.1.found, ()))) 0
theorem examA_ok : EcOk Tryz.prog 68 examA := ecR_of examA0_ok
def examB := ecR aF (fun x => [x.1.ok, x.1.lk = true, x.1.ms < 3, x.1.l.n < 32]) (fun _ (_ : Unit) => True) (fun _ _ => .bool false) (fun x y => Hp.owned (aF.hp 0 (x.1.adv 0, ()))) 0
theorem examB_ok : EcOk Tryz.prog 68 examB := ecR_of examB0_ok
def advR := ecR aAdv (fun x => [0 ≤ x.2.1 ∧ x.2.1 ≤ x.1.l.n, x.1.ok]) (fun _ (_ : Unit) => True) (fun _ _ => .tup []) (fun x y => Hp.owned (aAdv.hp 0 (x.1.adv x.2.1.toNat, x.2.1, ()))) 0
theorem advR_ok : EcOk Tryz.prog 70 advR := ecR_of advance_ok
def examX : List SV → Hp → Nat → (SV → Hp → Nat → Prop) → Prop := fun args H nx K => match aF.get args H with
  | some (_, x) => match x.1.lk with
    | true => examB args H nx K
    | false => examA args H nx K
  | none => False
theorem examX_ok : EcOk Tryz.prog 68 examX := by
  intro args H nx K hc hw
  unfold examX at hc
  split at hc
  · split at hc
    · exact examB_ok args H nx K hc hw
    · exact examA_ok args H nx K hc hw
  · exact hc.elim
def cloneR := ecR aRow (fun x => [x.1.z = false, x.1.n * 8 ≤ 140737488355328]) (fun x (y : Nat × Nat × Nat) => x.1.n ≤ y.2.2 ∧ y.2.2 ≤ 9223372036854775807) (fun x y => .slice 1 y.1 y.2.1 [] 1 0 x.1.n y.2.2 false) (fun x y => [⟨1, y.1, y.2.1, 1, x.1.n, fun k => .int .i64 (x.1.f k), true, false, y.2.2, 3, false, none⟩]) 1
theorem cloneR_ok : EcOk Tryz.prog 69 cloneR := ecR_of clone_ok
def EA1 : Env := (((((EE.addE 70 advR).addP 65 conC).addE 69 cloneR).addE 68 examX).addP 64 noneC).inl 67 Tryz.f67 fun _ _ => []
theorem EA1_ok : EnvOk Tryz.prog EA1 := (((((EE_ok.addE advR_ok).addP con_ok).addE cloneR_ok).addE examX_ok).addP none_ok).inl _ Tryz.func67 rfl (by kernel_rfl)
def EA2 : Env := (EA1.inl 40 Tryz.f40 fun _ _ => [.raw 1, .det 2, .unroll 9 3, .raw 9, .raw 10, .raw 14, .raw 15, .sure 9, .det 0, .det 16,  .draw 11 (.take 0 (.take 1 (.take 2 (.take 3 (.take 4 (.take 5 (.take 6 (.take 7 (.take 8 (.take 9 (.take 10 (.take 11 (.take 12 (.take 13 (.take 14 (.take 15 (.take 16 (.take 17 (.br 18 (.take 19 (.br 20 .fin .stop)) .stop))))))))))))))))))) [1000001], .join ⟨6, Nat, [6], fun y => [.ptr 900001 y 0 [.elt 0 1]], [], fun y => [⟨900001, y, 0, 1, 1, fun _ => nilSlice, true, true, 1, 83, false, none⟩], fun _ => True, fun _ => 0⟩ 100]).inl 37 Tryz.f37 fun _ _ => [.raw 1, .det 2]
theorem EA2_ok : EnvOk Tryz.prog EA2 := (EA1_ok.inl _ Tryz.func40 rfl (by kernel_rfl)).inl _ Tryz.func37 rfl (by kernel_rfl)
end Mk
