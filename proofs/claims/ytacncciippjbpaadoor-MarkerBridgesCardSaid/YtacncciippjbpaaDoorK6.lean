/-
  OWN WORK. Marker: awake.
-/
import Derived.Test.YtacncciippjbpaaDoorK5
namespace Mk
open Go Go.Proofs Eng
set_option linter.unusedVariables false
set_option linter.unusedSimpArgs false
set_option maxRecDepth 100000
set_option maxHeartbeats 4000000

/-! ### a contract for less -/
theorem ecC_less {P : Program} {α Y Y' : Type} {L : ArgL α} {pre pre' : α → List Prop} {post : α → Y → Prop} {res : α → Y → SV} {ents : α → Y → Hp} {post' : α → Y' → Prop} {res' : α → Y' → SV} {ents' : α → Y' → Hp} {k : Nat} {f : FuncId}
    (h : EcOk P f (ecC L pre post res ents k)) (hp : ∀ x, allT (pre' x) → allT (pre x) ∧ ∀ y, post x y → ∃ y', post' x y' ∧ res x y = res' x y' ∧ ents x y = ents' x y') : EcOk P f (ecC L pre' post' res' ents' k) := by
  intro args H nx K hc hw
  refine h args H nx K ?_ hw
  unfold ecC at hc ⊢
  split at hc
  · rename_i ps x hx
    split at hc
    · rw [allL_iff] at hc ⊢
      refine ⟨hc.1, fun x' hx' => ?_⟩
      have h2 := hc.2 x' hx'
      rw [allL_iff] at h2 ⊢
      obtain ⟨q1, q2⟩ := hp x' ((pOb_true _).1 h2.1)
      refine ⟨(pOb_true _).2 q1, fun y hy => ?_⟩
      obtain ⟨y', p1, p2, p3⟩ := q2 y hy
      rw [p2, p3]
      exact h2.2 y' p1
    · exact hc.elim
  · exact hc.elim
/-- .. whose data get no name. -/
def ecR {α Y : Type} (L : ArgL α) (pre : α → List Prop) (post : α → Y → Prop) (res : α → Y → SV) (ents : α → Y → Hp) (k : Nat) : List SV → Hp → Nat → (SV → Hp → Nat → Prop) → Prop := fun args H nx K =>
  match L.get args H with
  | some (ps, x) => match apartB (L.rt args H) (sndL (L.om 0 args H)) with
    | true => allL ps (allL (pOb (pre x)) (∀ y, post x y → K ((res x y).rt (tau (L.om 0 args H ++ L.rm 0 args H) L.tags nx)) (Hp.app (Hp.rt (tau (L.om 0 args H ++ L.rm 0 args H) L.tags nx) (ents x y)) (Hp.minus (sndL (L.om 0 args H)) H)) (nx + k)))
    | false => False
  | none => False
theorem ecR_of {P : Program} {α Y : Type} {L : ArgL α} {pre : α → List Prop} {post : α → Y → Prop} {res : α → Y → SV} {ents : α → Y → Hp} {k : Nat} {f : FuncId} (h : EcOk P f (ecC L pre post res ents k)) : EcOk P f (ecR L pre post res ents k) := by
  intro args H nx K hc hw
  refine h args H nx K ?_ hw
  unfold ecC
  unfold ecR at hc
  split at hc
  · rename_i ps x hx
    split at hc
    · rename_i hB
      simp only [hx, hB]
      rw [allL_iff] at hc ⊢
      exact ⟨hc.1, fun x' hx' => hx' ▸ hc.2⟩
    · exact hc.elim
  · exact hc.elim
def softA := ecR aStr (fun x => [x.1 = attL [1]]) (fun x (y : Nat × Nat × Nat) => 33 ≤ y.2.2) (fun x y => .tup [.slice 0 y.1 y.2.1 [] 1 0 33 y.2.2 false, .int .i64 0]) (fun x y => [⟨0, y.1, y.2.1, 1, 33, fun k => .int .i64 (softF (attL [1]) k), true, false, y.2.2, 3, false, none⟩]) 1
theorem softA_ok : EcOk Tryd.prog 44 softA := by
  refine ecR_of (ecC_less soften_ok fun x hp => ?_)
  obtain ⟨s, _⟩ := x
  obtain ⟨h1, _⟩ := hp
  dsimp only at h1
  subst h1
  have hl : (attL [1]).length = 33 := by decide +kernel
  refine ⟨⟨(by decide +kernel : listB (attL [1]) = true), by show (attL [1]).length ≤ 40000; omega, by show 0 < (attL [1]).length; omega, trivial⟩, fun y hy => ⟨y, by rw [← hl]; exact hy, ?_, ?_⟩⟩
  · show SV.tup [.slice 0 y.1 y.2.1 [] 1 0 (attL [1]).length y.2.2 false, .int .i64 0] = _
    rw [hl]
  · show ([⟨0, y.1, y.2.1, 1, (attL [1]).length, fun k => .int .i64 (softF (attL [1]) k), true, false, y.2.2, 3, false, none⟩] : Hp) = _
    rw [hl]
/-- What examine does where the marker is at the place. -/
def FD.found (d : FD) : FD := FD.mk d.1 d.2.1 d.sb d.so d.tk true d.len (FD.cut d.l 0) (d.pl + ((0 : Nat) : Int)) true (wrA (FD.cut d.l 0).f 0 : Nat) 0 d.gv
def examA0 := ecU aF (fun x => [x.1.ok, x.1.lk = false, 32 ≤ x.1.l.n, wrA x.1.l.f 0 ≤ 2]) (fun _ (_ : Unit) => True) (fun x _ => (x.1.found, ())) (fun _ _ => .bool true)
def examB0 := ecU aF (fun x => [x.1.ok, x.1.lk = true, x.1.ms < 3, x.1.l.n < 32]) (fun _ (_ : Unit) => True) (fun x _ => (x.1.adv 0, ())) (fun _ _ => .bool false)
theorem wrA_cut0 (l : OwnD Int) (k : Nat) : wrA (FD.cut l 0).f k = wrA l.f k := wr_congr fun i _ => by
  show (if k + i < l.n - 0 then l.f (k + i + 0) else l.f (k + i)) = _
  split <;> rfl
theorem examA0_ok : EcOk Tryd.prog 39 examA0 := by
  refine ecC_less examine_ok fun x hp => ?_
  obtain ⟨h1, h2, h3, h4, _⟩ := hp
  refine ⟨⟨h1, .inr h2, trivial⟩, fun y hy => ⟨(), trivial, ?_⟩⟩
  obtain ⟨k, hk, hy⟩ := hy
  rw [if_neg (by rw [h2]; decide)] at hk
  obtain ⟨k1, k2, k3⟩ := hk
  have h0 : k = 0 := by
    rcases Nat.eq_zero_or_pos k with h | h
    · exact h
    · have := (k1 0 h).2; omega
  subst h0
  have hn : ¬ (x.1.adv 0).l.n < 32 := by show ¬ x.1.l.n - 0 < 32; omega
  rw [if_neg hn] at hy
  have hl : (x.1.adv 0).look = x.1.found := look1 (by show wrA (FD.cut x.1.l 0).f 0 ≤ 2; rw [wrA_cut0]; exact h4)
  rw [hl] at hy
  subst hy
  exact ⟨rfl, rfl⟩
theorem examB0_ok : EcOk Tryd.prog 39 examB0 := by
  refine ecC_less examine_ok fun x hp => ?_
  obtain ⟨h1, h2, h3, h4, _⟩ := hp
  refine ⟨⟨h1, .inl h3, trivial⟩, fun y hy => ⟨(), trivial, ?_⟩⟩
  obtain ⟨k, hk, hy⟩ := hy
  rw [if_pos h2] at hk
  subst hk
  rw [if_pos (by show x.1.l.n - 0 < 32; omega)] at hy
  subst hy
  exact ⟨rfl, rfl⟩
def examA := ecR aF (fun x => [x.1.ok, x.1.lk = false, 32 ≤ x.1.l.n, wrA x.1.l.f 0 ≤ 2]) (fun _ (_ : Unit) => True) (fun _ _ => .bool true) (fun x y => Hp.owned (aF.hp 0 (x.1.found, ()))) 0
theorem examA_ok : EcOk Tryd.prog 39 examA := ecR_of examA0_ok
def examB := ecR aF (fun x => [x.1.ok, x.1.lk = true, x.1.ms < 3, x.1.l.n < 32]) (fun _ (_ : Unit) => True) (fun _ _ => .bool false) (fun x y => Hp.owned (aF.hp 0 (x.1.adv 0, ()))) 0
theorem examB_ok : EcOk Tryd.prog 39 examB := ecR_of examB0_ok
def advR := ecR aAdv (fun x => [0 ≤ x.2.1 ∧ x.2.1 ≤ x.1.l.n, x.1.ok]) (fun _ (_ : Unit) => True) (fun _ _ => .tup []) (fun x y => Hp.owned (aAdv.hp 0 (x.1.adv x.2.1.toNat, x.2.1, ()))) 0
theorem advR_ok : EcOk Tryd.prog 41 advR := ecR_of advance_ok
def examX : List SV → Hp → Nat → (SV → Hp → Nat → Prop) → Prop := fun args H nx K => match aF.get args H with
  | some (_, x) => match x.1.lk with
    | true => examB args H nx K
    | false => examA args H nx K
  | none => False
theorem examX_ok : EcOk Tryd.prog 39 examX := by
  intro args H nx K hc hw
  unfold examX at hc
  split at hc
  · split at hc
    · exact examB_ok args H nx K hc hw
    · exact examA_ok args H nx K hc hw
  · exact hc.elim
def EA1 : Env := (((((EE.addE 41 advR).addP 36 conC).addE 40 clone).addE 39 examX).addP 35 noneC).inl 38 Tryd.f38 fun _ _ => []
theorem EA1_ok : EnvOk Tryd.prog EA1 := (((((EE_ok.addE advR_ok).addP con_ok).addE clone_ok).addE examX_ok).addP none_ok).inl _ Tryd.func38 rfl (by kernel_rfl)
def EA2 : Env := (EA1.inl 22 Tryd.f22 fun _ _ => [.raw 1, .det 2, .unroll 9 3, .raw 9, .raw 10, .raw 14, .raw 15, .sure 9, .det 0, .det 16,  .draw 11 (.take 0 (.take 1 (.take 2 (.take 3 (.take 4 (.take 5 (.take 6 (.take 7 (.take 8 (.take 9 (.take 10 (.take 11 (.take 12 (.take 13 (.take 14 (.take 15 (.take 16 (.take 17 (.br 18 (.take 19 (.br 20 .fin .stop)) .stop))))))))))))))))))) [1000001], .join ⟨6, Nat, [6], fun y => [.ptr 900001 y 0 [.elt 0 1]], [], fun y => [⟨900001, y, 0, 1, 1, fun _ => nilSlice, true, true, 1, 40, false, none⟩], fun _ => True, fun _ => 0⟩ 100]).inl 17 Tryd.f17 fun _ _ => [.raw 1, .det 2]
theorem EA2_ok : EnvOk Tryd.prog EA2 := (EA1_ok.inl _ Tryd.func22 rfl (by kernel_rfl)).inl _ Tryd.func17 rfl (by kernel_rfl)
def EA3 : Env := (((((EA2.addP 10 sequ).addP 12 mix).addP 14 attach).addE 44 softA).addP 26 lockedC).addP 27 atC
theorem EA3_ok : EnvOk Tryd.prog EA3 := (((((EA2_ok.addP sequ_ok).addP mix_ok).addP attach_ok).addE softA_ok).addP locked_ok).addP at_ok
def EA : Env := ((EA3.inl 30 Tryd.f30 fun _ _ => []).addQ 31 eqPt).addQ 29 eqSl
theorem EA_ok : EnvOk Tryd.prog EA := ((EA3_ok.inl _ Tryd.func30 rfl (by kernel_rfl)).addQ (eqPt_ok (by kernel_rfl))).addQ (eqSl_ok (e := 3) (by kernel_rfl))
def awakeC := pcOf .nil (fun _ => []) (fun _ => .bool true)
theorem awake_ok : PcOk Tryd.prog 9 awakeC := by
  refine pcOf_run (fun _ => EA_ok) Tryd.func9 rfl (by kernel_rfl) (fun x => trivial)
    (fun x => []) (fun _ => Nat.le_of_ble_eq_true rfl) (fun () hp hw => ?_)
  refine vc_of (q :=
      ∀ (s1 : List UInt8), s1 = Mk.seqS (4 : Int) → ∀ (v1 : Int), v1 = Mk.seqE (4 : Int) → ∀ (s2 : List UInt8), s2 = Mk.mixS [(0 : UInt8), (72 : UInt8)] → ∀ (v2 : Int), v2 = Mk.mixE [(0 : UInt8), (72 : UInt8)] → ∀ (s3 : List UInt8), s3 = Mk.attL [(1 : UInt8)] → ∀ (v3 : Int), v3 = Mk.attE [(1 : UInt8)] → ∀ (b1 b2 : Nat) (v4 : Int), v4 = (0 : Int) → ∀ (t1 : Bool), (t1 = if (!s1 == [(255 : UInt8), (72 :
      UInt8), (14 : UInt8), (192 : UInt8)]) = Bool.true then Bool.true else v1 != (0 : Int)) → ∀ (t2 : Bool), (t2 = if t1 = Bool.true then Bool.true else !s2 == [(255 : UInt8), (0 : UInt8)]) → ∀ (t3 : Bool), (t3 = if t2 = Bool.true then Bool.true else v2 != (0 : Int)) → ∀ (v5 : Int), v5 = (↑(List.length s3) : Int) → ∀ (t4 : Bool), (t4 = if t3 = Bool.true then Bool.true else v5 != (33 : Int)) → ∀ (t5 :
      Bool), (t5 = if t4 = Bool.true then Bool.true else v3 != (0 : Int)) → ∀ (t6 : Bool), (t6 = if t5 = Bool.true then Bool.true else v4 != (0 : Int)) → ∀ (t7 : Bool), (t7 = if t6 = Bool.true then Bool.true else Bool.false) → (t7 = Bool.true → Bool.false = Bool.true) ∧ (t7 = Bool.false → s3 = Mk.attL [(1 : UInt8)] ∧ ∀ (y1 : Nat × Nat × Nat), (33 : Nat) ≤ Prod.snd (Prod.snd y1) → ∀ (v6 : Int), v6 = (0 :
      Int) → (b2 = b2 ∧ (0 : Nat) = (0 : Nat)) ∧ (b1 = b1 ∧ (0 : Nat) = (0 : Nat)) ∧ (33 : Nat) ≤ (33 : Nat) ∧ (∀ (k1 : Nat), k1 < (33 : Nat) → Bool.true = Bool.true) ∧ (Prod.fst y1 = Prod.fst y1 ∧ Prod.fst (Prod.snd y1) = Prod.fst (Prod.snd y1)) ∧ ∀ (t8 : Bool), t8 = !Mk.softB (Mk.softF (Mk.attL [(1 : UInt8)])) (33 : Nat) → (t8 = Bool.true → ∀ (v7 : Int), v7 = (2 : Int) → ∀ (v8 : Int), v8 = (↑(0 : Nat)
      : Int) → ∀ (t9 : Bool), (t9 = if (v7 == (0 : Int)) = Bool.true then v8 == (1 : Int) else Bool.false) → (t9 = Bool.true → (0 : Int) ≤ (0 : Int)) ∧ (t9 = Bool.true → (0 : Int) < (↑(0 : Nat) : Int)) ∧ False) ∧ (t8 = Bool.false → (∀ (b3 : Nat), ∃ (x1 : Nat), ((0 : Nat) = (0 : Nat) ∧ b3 = x1 ∧ (0 : Nat) = (0 : Nat)) ∧ ((b3 = x1 ∧ (0 : Nat) = (0 : Nat) ∧ Bool.false = Bool.false ∧ (1 : Nat) ≤ (1 : Nat) ∧
      (1 : Nat) ≤ (1 : Nat) ∧ (1 : Nat) ≤ (1 : Nat)) ∧ (0 : Nat) = (0 : Nat) ∧ (0 : Nat) = (0 : Nat) ∧ (0 : Nat) = (0 : Nat) ∧ (0 : Nat) = (0 : Nat) ∧ (0 : Nat) = (0 : Nat) ∧ Bool.true = Bool.true) ∧ True) ∧ ∀ (b4 : Nat), True → (b2 = b2 ∧ (0 : Nat) = (0 : Nat)) ∧ (b2 = b2 ∧ (0 : Nat) = (0 : Nat)) ∧ Bool.true = Bool.true ∧ (264 : Nat) ≤ (140737488355328 : Nat) ∧ (33 : Nat) ≤ (9223372036854775807 : Nat) ∧
      (33 : Nat) ≤ (33 : Nat) ∧ (Prod.fst y1 = Prod.fst y1 ∧ Prod.fst (Prod.snd y1) = Prod.fst (Prod.snd y1)) ∧ ∀ (b5 b6 : Nat), (33 : Nat) ≤ b6 → b6 ≤ (9223372036854775807 : Nat) → ((33 : Nat) = (0 : Nat) → b6 = (0 : Nat)) → (b2 = b2 ∧ (0 : Nat) = (0 : Nat)) ∧ (b2 = b2 ∧ (0 : Nat) = (0 : Nat)) ∧ (b1 = b1 ∧ (0 : Nat) = (0 : Nat)) ∧ ∀ (v8 : Int), v8 = (↑(33 : Nat) : Int) → ∀ (v9 : Int), v9 =
      Go.IntKind.wrap Go.IntKind.i64 ((0 : Int) + v8) → (b1 = b1 ∧ (0 : Nat) = (0 : Nat)) ∧ (b2 = b2 ∧ (0 : Nat) = (0 : Nat)) ∧ (b2 = b2 ∧ (0 : Nat) = (0 : Nat)) ∧ (b1 = b1 ∧ (0 : Nat) = (0 : Nat)) ∧ (b5 = b5 ∧ (0 : Nat) = (0 : Nat)) ∧ ((0 : Nat) = (0 : Nat) ∧ ∀ (k2 : Nat), k2 < (33 : Nat) → Bool.true = Bool.true) ∧ Mk.FD.ok (b2, (0 : Nat), (b1, (0 : Nat), v9, Bool.false, ()), (1 : Int), Eng.OwnD.mk b5
      (0 : Nat) (33 : Nat) b6 (Decidable.decide ((33 : Nat) = (0 : Nat))) (33 : Nat) b6 (Decidable.decide ((33 : Nat) = (0 : Nat))) (Mk.softF (Mk.attL [(1 : UInt8)])), (0 : Int), Bool.false, (0 : Int), (0 : Int), (b4, (0 : Nat)), ()) ∧ Bool.false = Bool.false ∧ (32 : Nat) ≤ (33 : Nat) ∧ Mk.wrA (Mk.softF (Mk.attL [(1 : UInt8)])) (0 : Nat) ≤ (2 : Nat) ∧ ∀ (y2 : Unit), True → (b2 = b2 ∧ (0 : Nat) = (0 :
      Nat)) ∧ (b2 = b2 ∧ (0 : Nat) = (0 : Nat)) ∧ (b2 = b2 ∧ (0 : Nat) = (0 : Nat)) ∧ (b2 = b2 ∧ (0 : Nat) = (0 : Nat)) ∧ (b2 = b2 ∧ (0 : Nat) = (0 : Nat)) ∧ (b2 = b2 ∧ (0 : Nat) = (0 : Nat)) ∧ (b2 = b2 ∧ (0 : Nat) = (0 : Nat)) ∧ (0 : Int) ≤ Go.IntKind.wrap Go.IntKind.i64 ((32 : Int) + (1 : Int)) ∧ Go.IntKind.wrap Go.IntKind.i64 ((32 : Int) + (1 : Int)) ≤ (↑b6 : Int) ∧ (0 : Int) ≤ (32 : Int) ∧ (32 : Int)
      ≤ Go.IntKind.wrap Go.IntKind.i64 ((32 : Int) + (1 : Int)) ∧ ((match if b6 = Int.toNat (32 : Int) then (0 : Nat) else Int.toNat (32 : Int) with | (0 : Nat) => (1 : Nat) | Nat.succ i => i + (1 : Nat) + (1 : Nat)) ≤ (33 : Nat) ∧ (∀ (k3 : Nat), k3 < (1 : Nat) → Bool.true = Bool.true) ∧ (b5 = b5 ∧ (0 : Nat) = (0 : Nat)) ∧ ∀ (x'1 : Eng.RowD Int × Unit), x'1 = (Eng.RowD.mk b5 ((0 : Nat) + ((0 : Nat) + (if
      b6 = Int.toNat (32 : Int) then (0 : Nat) else Int.toNat (32 : Int)) * (1 : Nat))) (1 : Nat) (b6 - Int.toNat (32 : Int)) (Decidable.decide ((33 : Nat) = (0 : Nat))) fun (k : Nat) ↦ if (match if b6 = Int.toNat (32 : Int) then (0 : Nat) else Int.toNat (32 : Int) with | (0 : Nat) => k | Nat.succ i => i + (1 : Nat) + k) < (33 : Nat) then Mk.softF (Mk.attL [(1 : UInt8)])
      (match if b6 = Int.toNat (32 : Int) then (0 : Nat) else Int.toNat (32 : Int) with | (0 : Nat) => k | Nat.succ i => i + (1 : Nat) + k) else Mk.softF (Mk.attL [(1 : UInt8)]) (match if b6 = Int.toNat (32 : Int) then (0 : Nat) else Int.toNat (32 : Int) with | (0 : Nat) => k | Nat.succ i => i + (1 : Nat) + k), ()) → Eng.RowD.z (Prod.fst x'1) = Bool.false ∧ Eng.RowD.n (Prod.fst x'1) * (8 : Nat) ≤
      (140737488355328 : Nat) ∧ ∀ (y3 : Nat × Nat × Nat), Eng.RowD.n (Prod.fst x'1) ≤ Prod.snd (Prod.snd y3) ∧ Prod.snd (Prod.snd y3) ≤ (9223372036854775807 : Nat) → (∀ (b7 : Nat), (b4 = b4 ∧ (0 : Nat) = (0 : Nat)) ∧ (b7 = b7 ∧ (0 : Nat) = (0 : Nat)) ∧ ∀ (b8 : Nat), Bool.true = Bool.true ∧ (40 : Nat) ≤ (140737488355328 : Nat) ∧ (1 : Nat) ≤ (9223372036854775807 : Nat) ∧ (1 : Nat) ≤ (1 : Nat) ∧ (b8 = b8 ∧
      (0 : Nat) = (0 : Nat)) ∧ ∀ (b9 b10 : Nat), (1 : Nat) ≤ b10 → b10 ≤ (9223372036854775807 : Nat) → ((1 : Nat) = (0 : Nat) → b10 = (0 : Nat)) → (b4 = b4 ∧ (0 : Nat) = (0 : Nat)) ∧ (b2 = b2 ∧ (0 : Nat) = (0 : Nat)) ∧ (b2 = b2 ∧ (0 : Nat) = (0 : Nat)) ∧ (b1 = b1 ∧ (0 : Nat) = (0 : Nat)) ∧ (b5 = b5 ∧ (0 : Nat) = (0 : Nat)) ∧ ((0 : Nat) = (0 : Nat) ∧ ∀ (k4 : Nat), k4 < (33 : Nat) → Bool.true = Bool.true)
      ∧ ((0 : Int) ≤ Go.IntKind.wrap Go.IntKind.i64 ((32 : Int) + (1 : Int)) ∧ Go.IntKind.wrap Go.IntKind.i64 ((32 : Int) + (1 : Int)) ≤ (↑(33 : Nat) : Int)) ∧ Mk.FD.ok (b2, (0 : Nat), (b1, (0 : Nat), v9, Bool.true, ()), (1 : Int), Eng.OwnD.mk b5 (0 : Nat) (33 : Nat) b6 (Decidable.decide ((33 : Nat) = (0 : Nat))) (33 : Nat) b6 (Decidable.decide ((33 : Nat) = (0 : Nat))) fun (k : Nat) ↦ if k < (33 : Nat)
      then Mk.softF (Mk.attL [(1 : UInt8)]) k else Mk.softF (Mk.attL [(1 : UInt8)]) k, (0 : Int) + (↑(0 : Nat) : Int), Bool.false, (↑(Mk.wrA (fun (i : Nat) ↦ if i < (33 : Nat) then Mk.softF (Mk.attL [(1 : UInt8)]) i else Mk.softF (Mk.attL [(1 : UInt8)]) i) (0 : Nat)) : Int), (0 : Int), (b4, (0 : Nat)), ()) ∧ ∀ (y4 : Unit), True → (b2 = b2 ∧ (0 : Nat) = (0 : Nat)) ∧ (b2 = b2 ∧ (0 : Nat) = (0 : Nat)) ∧ (b1
      = b1 ∧ (0 : Nat) = (0 : Nat)) ∧ (b5 = b5 ∧ (0 : Nat) = (0 : Nat)) ∧ ((0 : Nat) = (0 : Nat) ∧ ∀ (k5 : Nat), k5 < (33 : Nat) → Bool.true = Bool.true) ∧ Mk.FD.ok (b2, (0 : Nat), (b1, (0 : Nat), v9, Bool.true, ()), (1 : Int), Eng.OwnD.mk b5 (0 : Nat) (0 : Nat) b6 (Decidable.decide ((33 : Nat) = (0 : Nat))) (33 : Nat) b6 (Decidable.decide ((33 : Nat) = (0 : Nat))) fun (k : Nat) ↦ if k < (0 : Nat) then
      if k + Int.toNat (Go.IntKind.wrap Go.IntKind.i64 ((32 : Int) + (1 : Int))) < (33 : Nat) then Mk.softF (Mk.attL [(1 : UInt8)]) (k + Int.toNat (Go.IntKind.wrap Go.IntKind.i64 ((32 : Int) + (1 : Int)))) else Mk.softF (Mk.attL [(1 : UInt8)]) (k + Int.toNat (Go.IntKind.wrap Go.IntKind.i64 ((32 : Int) + (1 : Int)))) else if k < (33 : Nat) then Mk.softF (Mk.attL [(1 : UInt8)]) k else Mk.softF (Mk.attL [(1
      : UInt8)]) k, (0 : Int) + (↑(0 : Nat) : Int) + (↑(Int.toNat (Go.IntKind.wrap Go.IntKind.i64 ((32 : Int) + (1 : Int)))) : Int), Bool.false, (↑(Mk.wrA (fun (i : Nat) ↦ if i < (33 : Nat) then Mk.softF (Mk.attL [(1 : UInt8)]) i else Mk.softF (Mk.attL [(1 : UInt8)]) i) (0 : Nat)) : Int), (0 : Int), (b4, (0 : Nat)), ()) ∧ Bool.true = Bool.true ∧ (0 : Int) < (3 : Int) ∧ (0 : Nat) < (32 : Nat) ∧ ∀ (y5 :
      Unit), True → (b4 = b4 ∧ (0 : Nat) = (0 : Nat)) ∧ ∀ (v10 : Int), v10 = (0 : Int) → ∀ (v11 : Int), v11 = (↑(1 : Nat) : Int) → ∀ (t9 : Bool), (t9 = if (v10 == (0 : Int)) = Bool.true then v11 == (1 : Int) else Bool.false) → (t9 = Bool.true → (0 : Int) ≤ (0 : Int)) ∧ (t9 = Bool.true → (0 : Int) < (↑(1 : Nat) : Int)) ∧ (t9 = Bool.true → b9 = b9 ∧ (0 : Nat) = (0 : Nat)) ∧ (t9 = Bool.true → Int.toNat (0 :
      Int) < (1 : Nat)) ∧ ∀ (t10 : Bool), (t10 = if t9 = Bool.true then (0 : Int) + (↑(0 : Nat) : Int) == (0 : Int) else Bool.false) → (t10 = Bool.true → (0 : Int) ≤ (0 : Int)) ∧ (t10 = Bool.true → (0 : Int) < (↑(1 : Nat) : Int)) ∧ (t10 = Bool.true → b9 = b9 ∧ (0 : Nat) = (0 : Nat)) ∧ (t10 = Bool.true → Int.toNat (0 : Int) < (1 : Nat)) ∧ ∀ (v12 : Int), v12 = (↑(Eng.RowD.n (Prod.fst x'1)) : Int) → ∀ (t11
      : Bool), (t11 = if t10 = Bool.true then v12 == (1 : Int) else Bool.false) → (t11 = Bool.true → b2 = b2 ∧ (0 : Nat) = (0 : Nat)) ∧ (t11 = Bool.true → b1 = b1 ∧ (0 : Nat) = (0 : Nat)) ∧ ∀ (t12 : Bool), t12 = Bool.true → ∀ (t13 : Bool), (t13 = if t11 = Bool.true then t12 else Bool.false) → (t13 = Bool.true → b2 = b2 ∧ (0 : Nat) = (0 : Nat)) ∧ (t13 = Bool.true → b1 = b1 ∧ (0 : Nat) = (0 : Nat)) ∧ ∀
      (v13 : Int), v13 = v9 → ∀ (t14 : Bool), (t14 = if t13 = Bool.true then v13 == (33 : Int) else Bool.false) → t14 = Bool.true) ∧ True) ∧ True))) (by kernel_rfl) ?_
  try simp only [eq_self, true_and, and_true, Nat.le_refl, implies_true, forall_const, Bool.false_eq_true, Bool.true_eq_false, reduceCtorEq, false_imp_iff, true_imp_iff, Int.toNat_zero, Int.toNat_natCast, Nat.zero_lt_one, Int.le_refl, allGet]
  have w33 : IntKind.i64.wrap (32 + 1) = 33 := by decide +kernel
  have w33' : IntKind.i64.wrap (0 + 33) = 33 := by decide +kernel
  intro s1 hs1 v1 hv1 s2 hs2 v2 hv2 s3 hs3 v3 hv3 b1 b2 v4 hv4 t1 ht1 t2 ht2 t3 ht3 v5 hv5 t4 ht4 t5 ht5 t6 ht6 t7 ht7
  have e1 : s1 = [255, 72, 14, 192] := hs1.trans (by decide +kernel)
  have e2 : v1 = 0 := hv1.trans (by decide +kernel)
  have e3 : s2 = [255, 0] := hs2.trans (by decide +kernel)
  have e4 : v2 = 0 := hv2.trans (by decide +kernel)
  have e5 : v5 = 33 := by rw [hv5, hs3]; decide +kernel
  have e6 : v3 = 0 := hv3.trans (by decide +kernel)
  subst e1 e2 e3 e4 e5 e6 hv4 ht1 ht2 ht3 ht4 ht5 ht6 ht7
  refine ⟨fun h => absurd h (by decide +kernel), fun _ => ⟨hs3, fun y1 hy1 v6 hv6 t8 ht8 => ⟨fun h => ?_, fun _ => ⟨fun b3 => ⟨b3, rfl, rfl⟩, fun b4 => ⟨by omega, by omega, fun b5 b6 h6 h6' v8 hv8 v9 hv9 => ?_⟩⟩⟩⟩⟩
  · rw [ht8] at h
    exact absurd h (by decide +kernel)
  have e8 : v8 = 33 := hv8
  subst e8
  rw [w33'] at hv9
  subst hv9
  rw [w33]
  have h32 : (if b6 = Int.toNat 32 then 0 else Int.toNat 32) = 32 := if_neg (by show ¬ b6 = 32; omega)
  rw [h32]
  refine ⟨⟨⟨Nat.le_refl _, h6, h6, Nat.le_refl _⟩, fun h => h, of_decide_eq_true rfl, of_decide_eq_true rfl, of_decide_eq_true rfl, of_decide_eq_true rfl⟩, by omega, by decide +kernel, by omega, by omega, by omega, by omega, by decide, fun x' hx' => ?_⟩
  have hn : x'.1.n = 1 := by rw [hx']
  refine ⟨by rw [hx']; rfl, by omega, fun y3 hy3 => ⟨by omega, by omega, fun b10 h10 h10' => ⟨⟨by omega, by decide⟩, ⟨⟨Nat.le_refl _, h6, h6, Nat.le_refl _⟩, fun h => h, of_decide_eq_true rfl, of_decide_eq_true rfl, of_decide_eq_true rfl, of_decide_eq_true rfl⟩, ⟨⟨Nat.zero_le _, h6, Nat.zero_le _, Nat.le_refl _⟩, fun h => h, of_decide_eq_true rfl, of_decide_eq_true rfl, of_decide_eq_true rfl, of_decide_eq_true rfl⟩, by omega, by omega, fun v10 hv10 v11 hv11 t9 ht9 => ⟨fun _ => by decide, fun t10 ht10 => ⟨fun _ => by decide, fun v12 hv12 t11 ht11 t12 ht12 t13 ht13 v13 hv13 t14 ht14 => ?_⟩⟩⟩⟩⟩
  have hv11 : v11 = 1 := hv11
  have hv12 : v12 = 1 := by rw [hv12, hn]; rfl
  subst hv10 hv11 hv12 ht9 ht10 ht11 ht12 ht13 hv13
  rw [ht14]
  rfl
end Mk
