/-
  OWN WORK. Receiver: a map as an argument; gaps.
-/
import Derived.Test.YtjhcndahjhkahaaGreatLN
import Derived.Test.YtjhcndahjhkahaaGreatL4
import Derived.Test.YtjhcndahjhkahaaGreatLW
namespace Eng
open Go
set_option linter.unusedVariables false
section
def isI64 : SV → Bool
  | .int .i64 _ => true
  | _ => false
theorem isI64_eq {v : SV} (h : isI64 v = true) : v = .int .i64 (intOf v) := by
  unfold isI64 at h
  split at h
  · rfl
  · cases h
/-- A map of integers, read. -/
def Arg.mp : Arg (Nat × (Int → Bool) × (Int → Int)) where
  get := fun v H => match v with
    | .map g b i => match H.find g with
      | some e => match e.fam with
        | some f => match e.get i with
          | .mobj h gt => some ([.p ((f i).1 = b), .p (i < e.n), .p (∀ k, h k = true → isI64 (gt k) = true)], (b, h, fun k => intOf (gt k)))
          | _ => none
        | none => none
      | none => none
    | _ => none
  sv := fun t x => .map t x.1 0
  hp := fun t x => [⟨t, x.1, 0, 0, 1, fun _ => .mobj x.2.1 (fun k => .int .i64 (x.2.2 k)), false, false, 1, 0, false, some fun _ => (x.1, 0)⟩]
  om := fun _ _ _ => []
  rm := fun t v _ => match v with
    | .map g _ _ => [(t, g)]
    | _ => []
  rt := fun v _ => match v with
    | .map g _ _ => [g]
    | _ => []
  tags := 1
  tg := fun t x => .one rfl
  ok := by
    intro v H ps x h hp hw hex t
    split at h
    · rename_i g b i
      split at h
      · rename_i e he
        split at h
        · rename_i f hf
          split at h
          · rename_i h0 g0 hg
            simp only [Option.some.injEq, Prod.mk.injEq] at h
            obtain ⟨rfl, rfl⟩ := h
            obtain ⟨p1, p2, p3, _⟩ := hp
            have p1 : (f i).1 = b := p1
            have p2 : i < e.n := p2
            have p3 : ∀ k, h0 k = true → isI64 (g0 k) = true := p3
            refine ⟨⟨rfl, rfl, trivial, rfl⟩, fun en hen => ?_⟩
            rw [List.mem_singleton] at hen
            subst hen
            refine .inr ⟨rfl, .inl ⟨g, e, List.mem_singleton.2 rfl, he, fun C w hO => ?_⟩⟩
            obtain ⟨eg, eb, eo, ewd, en, eget, eown, eone, ecap, et, ez, efam⟩ := e
            dsimp only at hf hg p2
            obtain ⟨m1, _, m3⟩ := hO.mob f hf i p2 h0 g0 hg
            have m1 := m1 rfl
            rw [p1] at m1 m3
            refine ⟨(fun q => by cases q), (fun _ _ q => by cases q), (fun q => by cases q), (fun q => by cases q), (fun f hf i hi hs => absurd rfl hs), fun f' hf' k hk h1 g1 hm => ?_, fun k hk => ⟨.inr rfl, .inr rfl, fun j hj => absurd hj (Nat.not_lt_zero _)⟩⟩
            cases hf'
            cases hm
            refine ⟨fun _ => m1, (fun q => by cases q), m3.eqv (fun _ => rfl) fun k hk => ?_⟩
            dsimp only
            rw [← isI64_eq (p3 k hk)]
            exact SVeq.of_eq rfl
          · cases h
        · cases h
      · cases h
    · cases h
instance : Arg.RO Arg.mp := ⟨fun t x e h => by rw [List.mem_singleton.1 h]⟩
end
end Eng
namespace Rc
open Go Go.Proofs Eng
set_option linter.unusedVariables false
set_option linter.unusedSimpArgs false
set_option maxRecDepth 100000
set_option maxHeartbeats 4000000
/-! ### gaps -/
abbrev TrD := Int × Int × Bool × Bool × List UInt8 × Int × Int × Int × RowD Int × (Nat × (Int → Bool) × (Int → Int)) × Int × Int × Int × Int × Int × Unit
abbrev pTr : Arg (Nat × Nat × TrD) := .ptr 15 (.agg (.cons (.elt (.int .i64)) (.cons (.elt (.int .i64)) (.cons (.elt .bool) (.cons (.elt .bool) (.cons (.elt .str) (.cons (.elt (.int .i64)) (.cons (.elt (.int .i64)) (.cons (.elt (.int .u32)) (.cons (.row (.int .u8)) (.cons .mp (.cons (.elt (.int .i64)) (.cons (.elt (.int .i64)) (.cons (.elt (.int .i64)) (.cons (.elt (.int .i64)) (.cons (.elt (.int .i64)) .nil))))))))))))))))
abbrev aTr : ArgL ((Nat × Nat × TrD) × Unit) := .cons pTr .nil
abbrev trEnd (x : TrD) : Bool := x.2.2.2.1
abbrev trLast (x : TrD) : Int := x.2.2.2.2.2.2.1
abbrev trText (x : TrD) : RowD Int := x.2.2.2.2.2.2.2.2.1
abbrev trH (x : TrD) : Int → Bool := x.2.2.2.2.2.2.2.2.2.1.2.1
abbrev trG (x : TrD) : Int → Int := x.2.2.2.2.2.2.2.2.2.1.2.2
def trN (x : TrD) : Int := if trEnd x = true then trLast x else (trText x).n
/-- A list of gaps in memory. -/
def gapE (l : List (Int × Int)) (k : Nat) : SV := .agg [.int .i64 (l.getD k (0, 0)).1, .int .i64 (l.getD k (0, 0)).2]
def gapC2 := ecC aTr (fun x => [∀ z, trH x.1.2.2 z = true → 0 ≤ z ∧ z < 65536])
  (fun x (y : List Int × RowK) => Rising y.1 ∧ (∀ z, trH x.1.2.2 z = true ↔ z ∈ y.1) ∧ (gapsR (trN x.1.2.2) (trG x.1.2.2) 0 y.1).length ≤ y.2.2.2 ∧ y.2.2.2 ≤ 9223372036854775807 ∧ ((gapsR (trN x.1.2.2) (trG x.1.2.2) 0 y.1).length = 0 → y.2.2.2 = 0))
  (fun x y => .slice 3 y.2.1 y.2.2.1 [] 2 0 (gapsR (trN x.1.2.2) (trG x.1.2.2) 0 y.1).length y.2.2.2 (decide ((gapsR (trN x.1.2.2) (trG x.1.2.2) 0 y.1).length = 0)))
  (fun x y => [⟨3, y.2.1, y.2.2.1, 2, (gapsR (trN x.1.2.2) (trG x.1.2.2) 0 y.1).length, gapE (gapsR (trN x.1.2.2) (trG x.1.2.2) 0 y.1), true, false, y.2.2.2, 46, decide ((gapsR (trN x.1.2.2) (trG x.1.2.2) 0 y.1).length = 0), none⟩]) 1
def EGA : Env := E0.addE 56 startsT
theorem EGA_ok : EnvOk Tryz.prog EGA := E0_ok.addE starts_ok
theorem getD_snoc {α : Type} {d : α} (o : List α) (g : α) (i : Nat) (h : i ≤ o.length) : (o ++ [g]).getD i d = if i < o.length then o.getD i d else g := by
  by_cases q : i < o.length
  · rw [if_pos q]; simp [List.getD, List.getElem?_append_left q]
  · rw [if_neg q]
    have q : i = o.length := by omega
    subst q
    simp [List.getD]
def slN : SV → Nat
  | .slice _ _ _ _ _ _ n _ _ => n
  | _ => 0
/-- The numbers that a row holds. -/
def lstE (e : Ent) (v : SV) : List Int := (List.range (slN v)).map fun k => intOf (e.get k)
abbrev GpX := Nat × Int × List (Int × Int) × RowK
def gapLoop (n : Int) (ge : Int → Int) (l : List Int) : LA := ⟨7, GpX, [24, 5, 4], fun x => [.int .i64 (x.1 : Nat), .int .i64 x.2.1, .slice 100 x.2.2.2.1 x.2.2.2.2.1 [] 2 0 x.2.2.1.length x.2.2.2.2.2 (decide (x.2.2.1.length = 0))], [],
  fun x => [⟨100, x.2.2.2.1, x.2.2.2.2.1, 2, x.2.2.1.length, gapE x.2.2.1, true, false, x.2.2.2.2.2, 46, decide (x.2.2.1.length = 0), none⟩],
  fun x => x.1 ≤ l.length ∧ x.2.2.1 ++ gapsR n ge x.2.1 (l.drop x.1) = gapsR n ge 0 l ∧ x.2.2.1.length ≤ x.2.2.2.2.2 ∧ x.2.2.2.2.2 ≤ 9223372036854775807 ∧ (x.2.2.1.length = 0 → x.2.2.2.2.2 = 0), fun x => l.length - x.1⟩
theorem gapT_ok : EcOk Tryz.prog 34 gapC2 := by
  refine ecC_run (fun _ => EGA_ok) Tryz.func34 rfl (by kernel_rfl) [] (fun x => [.join ⟨4, Unit, [3], fun _ => [.int .i64 (trN x.1.2.2)], [], fun _ => [], fun _ => True, fun _ => 0⟩ 10, .loopD 7 (fun fr H => gapLoop (trN x.1.2.2) (trG x.1.2.2) (lstE (entG H 10) (slotV fr 22)))]) (fun _ => Nat.le_of_ble_eq_true rfl) (fun ⟨⟨pb, po, ⟨nr, ph, me, en, nm, sz, la, sm, ⟨tb, to, tn, tc, tz, tf⟩, ⟨mb, h, ge⟩, tr, ask, wy, cl, du, ()⟩⟩, ()⟩ hp hw => ?_)
  refine vc_of (q :=
      (pb=pb∧po=po)∧∀ (v1:Int), v1=(↑tn:Int)→((pb=pb∧po=po)∧(en=true→(pb=pb∧po=po)∧∃ (x1:Unit), la=trN (nr, ph, me, en, nm, sz, la, sm, Eng.RowD.mk tb to tn tc tz tf, (mb, h, ge), tr, ask, wy, cl, du, ())∧True)∧(en=false→∃ (x2:Unit), v1=trN (nr, ph, me, en, nm, sz, la, sm, Eng.RowD.mk tb to tn tc tz tf, (mb, h, ge), tr, ask, wy, cl, du, ())∧True))∧∀ (x3:Unit), True→(∀ (v2:Int), h v2=true→0≤v2∧v2 <
      65536)∧mb=mb∧0 < 1∧(pb=pb∧po=po)∧∀ (s1:List Int) (y1:Nat × Nat × Nat), Rising s1→(∀ (x:Int), h x=true↔x ∈ s1)→List.length s1≤y1.2.2∧y1.2.2≤9223372036854775807∧(List.length s1=0→y1.2.2=0)→∀ (v3:Int), v3=(↑(List.length s1):Int)→(∃ (x4:Nat × Int × List (Int × Int) × Nat × Nat × Nat), 0=(↑x4.1:Int)∧(0:Int)=x4.2.1∧SVeq (SV.slice 999999 0 0 [] 0 0 0 0 true) (SV.slice 100 x4.2.2.2.1 x4.2.2.2.2.1 [] 2 0
      (List.length x4.2.2.1) x4.2.2.2.2.2 (decide (List.length x4.2.2.1=0)))∧(decide (List.length x4.2.2.1=0)=true∧List.length x4.2.2.1=0∧x4.2.2.2.2.2=0)∧x4.1≤List.length (lstE (Ent.mk 10 y1.1 y1.2.1 1 (List.length s1) (fun (k:Nat) ↦ SV.int IntKind.i64 (List.getD s1 k (0:Int))) true false y1.2.2 (3:Go.TypeId) (decide (List.length s1=0)) Option.none) (SV.slice 10 y1.1 y1.2.1 [] 1 0 (List.length s1) y1.2.2
      (decide (List.length s1=0))))∧x4.2.2.1++gapsR (trN (nr, ph, me, en, nm, sz, la, sm, Eng.RowD.mk tb to tn tc tz tf, (mb, h, ge), tr, ask, wy, cl, du, ())) ge x4.2.1 (List.drop x4.1 (lstE (Ent.mk 10 y1.1 y1.2.1 1 (List.length s1) (fun (k:Nat) ↦ SV.int IntKind.i64 (List.getD s1 k (0:Int))) true false y1.2.2 (3:Go.TypeId) (decide (List.length s1=0)) Option.none) (SV.slice 10 y1.1 y1.2.1 [] 1 0
      (List.length s1) y1.2.2 (decide (List.length s1=0)))))=gapsR (trN (nr, ph, me, en, nm, sz, la, sm, Eng.RowD.mk tb to tn tc tz tf, (mb, h, ge), tr, ask, wy, cl, du, ())) ge (0:Int) (lstE (Ent.mk 10 y1.1 y1.2.1 1 (List.length s1) (fun (k:Nat) ↦ SV.int IntKind.i64 (List.getD s1 k (0:Int))) true false y1.2.2 (3:Go.TypeId) (decide (List.length s1=0)) Option.none) (SV.slice 10 y1.1 y1.2.1 [] 1 0
      (List.length s1) y1.2.2 (decide (List.length s1=0))))∧List.length x4.2.2.1≤x4.2.2.2.2.2∧x4.2.2.2.2.2≤9223372036854775807∧(List.length x4.2.2.1=0→x4.2.2.2.2.2=0))∧∀ (x5:Nat × Int × List (Int × Int) × Nat × Nat × Nat), x5.1≤List.length (lstE (Ent.mk 10 y1.1 y1.2.1 1 (List.length s1) (fun (k:Nat) ↦ SV.int IntKind.i64 (List.getD s1 k (0:Int))) true false y1.2.2 (3:Go.TypeId) (decide (List.length s1=0))
      Option.none) (SV.slice 10 y1.1 y1.2.1 [] 1 0 (List.length s1) y1.2.2 (decide (List.length s1=0))))∧x5.2.2.1++gapsR (trN (nr, ph, me, en, nm, sz, la, sm, Eng.RowD.mk tb to tn tc tz tf, (mb, h, ge), tr, ask, wy, cl, du, ())) ge x5.2.1 (List.drop x5.1 (lstE (Ent.mk 10 y1.1 y1.2.1 1 (List.length s1) (fun (k:Nat) ↦ SV.int IntKind.i64 (List.getD s1 k (0:Int))) true false y1.2.2 (3:Go.TypeId) (decide
      (List.length s1=0)) Option.none) (SV.slice 10 y1.1 y1.2.1 [] 1 0 (List.length s1) y1.2.2 (decide (List.length s1=0)))))=gapsR (trN (nr, ph, me, en, nm, sz, la, sm, Eng.RowD.mk tb to tn tc tz tf, (mb, h, ge), tr, ask, wy, cl, du, ())) ge (0:Int) (lstE (Ent.mk 10 y1.1 y1.2.1 1 (List.length s1) (fun (k:Nat) ↦ SV.int IntKind.i64 (List.getD s1 k (0:Int))) true false y1.2.2 (3:Go.TypeId) (decide
      (List.length s1=0)) Option.none) (SV.slice 10 y1.1 y1.2.1 [] 1 0 (List.length s1) y1.2.2 (decide (List.length s1=0))))∧List.length x5.2.2.1≤x5.2.2.2.2.2∧x5.2.2.2.2.2≤9223372036854775807∧(List.length x5.2.2.1=0→x5.2.2.2.2.2=0)→(decide ((↑x5.1:Int) < v3)=true→0≤(↑x5.1:Int)∧(↑x5.1:Int) < (↑(List.length s1):Int)∧(y1.1=y1.1∧y1.2.1=y1.2.1)∧Int.toNat (↑x5.1:Int) < List.length s1∧∀ (v4:Int), (v4=if trN
      (nr, ph, me, en, nm, sz, la, sm, Eng.RowD.mk tb to tn tc tz tf, (mb, h, ge), tr, ask, wy, cl, du, ()) < List.getD s1 (Int.toNat (↑x5.1:Int)) (0:Int) then trN (nr, ph, me, en, nm, sz, la, sm, Eng.RowD.mk tb to tn tc tz tf, (mb, h, ge), tr, ask, wy, cl, du, ()) else List.getD s1 (Int.toNat (↑x5.1:Int)) (0:Int))→(decide (x5.2.1 < v4)=true→∀ (v5:Int), (v5=if trN (nr, ph, me, en, nm, sz, la, sm,
      Eng.RowD.mk tb to tn tc tz tf, (mb, h, ge), tr, ask, wy, cl, du, ()) < List.getD s1 (Int.toNat (↑x5.1:Int)) (0:Int) then trN (nr, ph, me, en, nm, sz, la, sm, Eng.RowD.mk tb to tn tc tz tf, (mb, h, ge), tr, ask, wy, cl, du, ()) else List.getD s1 (Int.toNat (↑x5.1:Int)) (0:Int))→∀ (b1:Nat), (x5.2.2.2.1=x5.2.2.2.1∧x5.2.2.2.2.1=x5.2.2.2.2.1)∧(decide (List.length x5.2.2.1=0)=true→decide (List.length
      x5.2.2.1=0)=true)∧0=0∧List.length x5.2.2.1≤List.length x5.2.2.1∧x5.2.2.2.2.2≤x5.2.2.2.2.2∧(List.length x5.2.2.1+1)*16≤140737488355328∧List.length x5.2.2.1+1≤9223372036854775807∧1≤1∧(b1=b1∧0=0)∧∀ (b2 b3 b4:Nat), List.length x5.2.2.1+1≤b4→b4≤9223372036854775807→(decide (List.length x5.2.2.1=0)=true→1=0→b4=0)→(pb=pb∧po=po)∧mb=mb∧0 < 1∧∀ (v6:Int), v6=IntKind.i64.wrap ((↑x5.1:Int)+(1:Int))→∃ (x6:Nat ×
      Int × List (Int × Int) × Nat × Nat × Nat), v6=(↑x6.1:Int)∧(if h (List.getD s1 (Int.toNat (↑x5.1:Int)) (0:Int))=true then ge (List.getD s1 (Int.toNat (↑x5.1:Int)) (0:Int)) else (0:Int))=x6.2.1∧(b2=x6.2.2.2.1∧b3=x6.2.2.2.2.1∧0=0∧List.length x5.2.2.1+1=List.length x6.2.2.1∧b4=x6.2.2.2.2.2∧(decide (List.length x5.2.2.1=0)&&decide (1=0))=decide (List.length
      x6.2.2.1=0))∧((b2=x6.2.2.2.1∧b3=x6.2.2.2.2.1∧(decide (List.length x5.2.2.1=0)&&decide (1=0))=decide (List.length x6.2.2.1=0)∧List.length x6.2.2.1≤List.length x5.2.2.1+1∧List.length x6.2.2.1≤x6.2.2.2.2.2∧x6.2.2.2.2.2≤b4)∧∀ (i1:Nat), i1 < List.length x6.2.2.1→(if i1 < List.length x5.2.2.1 then (List.getD x5.2.2.1 i1 ((0:Int), (0:Int))).1 else x5.2.1)=(List.getD x6.2.2.1 i1 ((0:Int), (0:Int))).1∧(if
      i1 < List.length x5.2.2.1 then (List.getD x5.2.2.1 i1 ((0:Int), (0:Int))).2 else v5)=(List.getD x6.2.2.1 i1 ((0:Int), (0:Int))).2)∧(x6.1≤List.length (lstE (Ent.mk 10 y1.1 y1.2.1 1 (List.length s1) (fun (k:Nat) ↦ SV.int IntKind.i64 (List.getD s1 k (0:Int))) true false y1.2.2 (3:Go.TypeId) (decide (List.length s1=0)) Option.none) (SV.slice 10 y1.1 y1.2.1 [] 1 0 (List.length s1) y1.2.2 (decide
      (List.length s1=0))))∧x6.2.2.1++gapsR (trN (nr, ph, me, en, nm, sz, la, sm, Eng.RowD.mk tb to tn tc tz tf, (mb, h, ge), tr, ask, wy, cl, du, ())) ge x6.2.1 (List.drop x6.1 (lstE (Ent.mk 10 y1.1 y1.2.1 1 (List.length s1) (fun (k:Nat) ↦ SV.int IntKind.i64 (List.getD s1 k (0:Int))) true false y1.2.2 (3:Go.TypeId) (decide (List.length s1=0)) Option.none) (SV.slice 10 y1.1 y1.2.1 [] 1 0 (List.length s1)
      y1.2.2 (decide (List.length s1=0)))))=gapsR (trN (nr, ph, me, en, nm, sz, la, sm, Eng.RowD.mk tb to tn tc tz tf, (mb, h, ge), tr, ask, wy, cl, du, ())) ge (0:Int) (lstE (Ent.mk 10 y1.1 y1.2.1 1 (List.length s1) (fun (k:Nat) ↦ SV.int IntKind.i64 (List.getD s1 k (0:Int))) true false y1.2.2 (3:Go.TypeId) (decide (List.length s1=0)) Option.none) (SV.slice 10 y1.1 y1.2.1 [] 1 0 (List.length s1) y1.2.2
      (decide (List.length s1=0))))∧List.length x6.2.2.1≤x6.2.2.2.2.2∧x6.2.2.2.2.2≤9223372036854775807∧(List.length x6.2.2.1=0→x6.2.2.2.2.2=0))∧List.length (lstE (Ent.mk 10 y1.1 y1.2.1 1 (List.length s1) (fun (k:Nat) ↦ SV.int IntKind.i64 (List.getD s1 k (0:Int))) true false y1.2.2 (3:Go.TypeId) (decide (List.length s1=0)) Option.none) (SV.slice 10 y1.1 y1.2.1 [] 1 0 (List.length s1) y1.2.2 (decide
      (List.length s1=0)))) - x6.1 < List.length (lstE (Ent.mk 10 y1.1 y1.2.1 1 (List.length s1) (fun (k:Nat) ↦ SV.int IntKind.i64 (List.getD s1 k (0:Int))) true false y1.2.2 (3:Go.TypeId) (decide (List.length s1=0)) Option.none) (SV.slice 10 y1.1 y1.2.1 [] 1 0 (List.length s1) y1.2.2 (decide (List.length s1=0)))) - x5.1)∧(decide (x5.2.1 < v4)=false→(pb=pb∧po=po)∧mb=mb∧0 < 1∧∀ (v6:Int),
      v6=IntKind.i64.wrap ((↑x5.1:Int)+(1:Int))→∃ (x6:Nat × Int × List (Int × Int) × Nat × Nat × Nat), v6=(↑x6.1:Int)∧(if h (List.getD s1 (Int.toNat (↑x5.1:Int)) (0:Int))=true then ge (List.getD s1 (Int.toNat (↑x5.1:Int)) (0:Int)) else (0:Int))=x6.2.1∧(x5.2.2.2.1=x6.2.2.2.1∧x5.2.2.2.2.1=x6.2.2.2.2.1∧0=0∧List.length x5.2.2.1=List.length x6.2.2.1∧x5.2.2.2.2.2=x6.2.2.2.2.2∧decide (List.length
      x5.2.2.1=0)=decide (List.length x6.2.2.1=0))∧((x5.2.2.2.1=x6.2.2.2.1∧x5.2.2.2.2.1=x6.2.2.2.2.1∧decide (List.length x5.2.2.1=0)=decide (List.length x6.2.2.1=0)∧List.length x6.2.2.1≤List.length x5.2.2.1∧List.length x6.2.2.1≤x6.2.2.2.2.2∧x6.2.2.2.2.2≤x5.2.2.2.2.2)∧∀ (i1:Nat), i1 < List.length x6.2.2.1→(List.getD x5.2.2.1 i1 ((0:Int), (0:Int))).1=(List.getD x6.2.2.1 i1 ((0:Int), (0:Int))).1∧(List.getD
      x5.2.2.1 i1 ((0:Int), (0:Int))).2=(List.getD x6.2.2.1 i1 ((0:Int), (0:Int))).2)∧(x6.1≤List.length (lstE (Ent.mk 10 y1.1 y1.2.1 1 (List.length s1) (fun (k:Nat) ↦ SV.int IntKind.i64 (List.getD s1 k (0:Int))) true false y1.2.2 (3:Go.TypeId) (decide (List.length s1=0)) Option.none) (SV.slice 10 y1.1 y1.2.1 [] 1 0 (List.length s1) y1.2.2 (decide (List.length s1=0))))∧x6.2.2.1++gapsR (trN (nr, ph, me,
      en, nm, sz, la, sm, Eng.RowD.mk tb to tn tc tz tf, (mb, h, ge), tr, ask, wy, cl, du, ())) ge x6.2.1 (List.drop x6.1 (lstE (Ent.mk 10 y1.1 y1.2.1 1 (List.length s1) (fun (k:Nat) ↦ SV.int IntKind.i64 (List.getD s1 k (0:Int))) true false y1.2.2 (3:Go.TypeId) (decide (List.length s1=0)) Option.none) (SV.slice 10 y1.1 y1.2.1 [] 1 0 (List.length s1) y1.2.2 (decide (List.length s1=0)))))=gapsR (trN (nr,
      ph, me, en, nm, sz, la, sm, Eng.RowD.mk tb to tn tc tz tf, (mb, h, ge), tr, ask, wy, cl, du, ())) ge (0:Int) (lstE (Ent.mk 10 y1.1 y1.2.1 1 (List.length s1) (fun (k:Nat) ↦ SV.int IntKind.i64 (List.getD s1 k (0:Int))) true false y1.2.2 (3:Go.TypeId) (decide (List.length s1=0)) Option.none) (SV.slice 10 y1.1 y1.2.1 [] 1 0 (List.length s1) y1.2.2 (decide (List.length s1=0))))∧List.length
      x6.2.2.1≤x6.2.2.2.2.2∧x6.2.2.2.2.2≤9223372036854775807∧(List.length x6.2.2.1=0→x6.2.2.2.2.2=0))∧List.length (lstE (Ent.mk 10 y1.1 y1.2.1 1 (List.length s1) (fun (k:Nat) ↦ SV.int IntKind.i64 (List.getD s1 k (0:Int))) true false y1.2.2 (3:Go.TypeId) (decide (List.length s1=0)) Option.none) (SV.slice 10 y1.1 y1.2.1 [] 1 0 (List.length s1) y1.2.2 (decide (List.length s1=0)))) - x6.1 < List.length (lstE
      (Ent.mk 10 y1.1 y1.2.1 1 (List.length s1) (fun (k:Nat) ↦ SV.int IntKind.i64 (List.getD s1 k (0:Int))) true false y1.2.2 (3:Go.TypeId) (decide (List.length s1=0)) Option.none) (SV.slice 10 y1.1 y1.2.1 [] 1 0 (List.length s1) y1.2.2 (decide (List.length s1=0)))) - x5.1))∧(decide ((↑x5.1:Int) < v3)=false→(decide (x5.2.1 < trN (nr, ph, me, en, nm, sz, la, sm, Eng.RowD.mk tb to tn tc tz tf, (mb, h, ge),
      tr, ask, wy, cl, du, ()))=true→∀ (b1:Nat), (x5.2.2.2.1=x5.2.2.2.1∧x5.2.2.2.2.1=x5.2.2.2.2.1)∧(decide (List.length x5.2.2.1=0)=true→decide (List.length x5.2.2.1=0)=true)∧0=0∧List.length x5.2.2.1≤List.length x5.2.2.1∧x5.2.2.2.2.2≤x5.2.2.2.2.2∧(List.length x5.2.2.1+1)*16≤140737488355328∧List.length x5.2.2.1+1≤9223372036854775807∧1≤1∧(b1=b1∧0=0)∧∀ (b2 b3 b4:Nat), List.length
      x5.2.2.1+1≤b4→b4≤9223372036854775807→(decide (List.length x5.2.2.1=0)=true→1=0→b4=0)→∃ (x6:List Int × Nat × Nat × Nat), (b2=x6.2.1∧b3=x6.2.2.1∧0=0∧List.length x5.2.2.1+1=List.length (gapsR (trN (nr, ph, me, en, nm, sz, la, sm, Eng.RowD.mk tb to tn tc tz tf, (mb, h, ge), tr, ask, wy, cl, du, ())) ge (0:Int) x6.1)∧b4=x6.2.2.2∧(decide (List.length x5.2.2.1=0)&&decide (1=0))=decide (List.length (gapsR
      (trN (nr, ph, me, en, nm, sz, la, sm, Eng.RowD.mk tb to tn tc tz tf, (mb, h, ge), tr, ask, wy, cl, du, ())) ge (0:Int) x6.1)=0))∧((b2=x6.2.1∧b3=x6.2.2.1∧(decide (List.length x5.2.2.1=0)&&decide (1=0))=decide (List.length (gapsR (trN (nr, ph, me, en, nm, sz, la, sm, Eng.RowD.mk tb to tn tc tz tf, (mb, h, ge), tr, ask, wy, cl, du, ())) ge (0:Int) x6.1)=0)∧List.length (gapsR (trN (nr, ph, me, en, nm,
      sz, la, sm, Eng.RowD.mk tb to tn tc tz tf, (mb, h, ge), tr, ask, wy, cl, du, ())) ge (0:Int) x6.1)≤List.length x5.2.2.1+1∧List.length (gapsR (trN (nr, ph, me, en, nm, sz, la, sm, Eng.RowD.mk tb to tn tc tz tf, (mb, h, ge), tr, ask, wy, cl, du, ())) ge (0:Int) x6.1)≤x6.2.2.2∧x6.2.2.2≤b4)∧∀ (i1:Nat), i1 < List.length (gapsR (trN (nr, ph, me, en, nm, sz, la, sm, Eng.RowD.mk tb to tn tc tz tf, (mb, h,
      ge), tr, ask, wy, cl, du, ())) ge (0:Int) x6.1)→(if i1 < List.length x5.2.2.1 then (List.getD x5.2.2.1 i1 ((0:Int), (0:Int))).1 else x5.2.1)=(List.getD (gapsR (trN (nr, ph, me, en, nm, sz, la, sm, Eng.RowD.mk tb to tn tc tz tf, (mb, h, ge), tr, ask, wy, cl, du, ())) ge (0:Int) x6.1) i1 ((0:Int), (0:Int))).1∧(if i1 < List.length x5.2.2.1 then (List.getD x5.2.2.1 i1 ((0:Int), (0:Int))).2 else trN
      (nr, ph, me, en, nm, sz, la, sm, Eng.RowD.mk tb to tn tc tz tf, (mb, h, ge), tr, ask, wy, cl, du, ()))=(List.getD (gapsR (trN (nr, ph, me, en, nm, sz, la, sm, Eng.RowD.mk tb to tn tc tz tf, (mb, h, ge), tr, ask, wy, cl, du, ())) ge (0:Int) x6.1) i1 ((0:Int), (0:Int))).2)∧Rising x6.1∧(∀ (v5:Int), h v5=true↔v5 ∈ x6.1)∧List.length (gapsR (trN (nr, ph, me, en, nm, sz, la, sm, Eng.RowD.mk tb to tn tc tz
      tf, (mb, h, ge), tr, ask, wy, cl, du, ())) ge (0:Int) x6.1)≤x6.2.2.2∧x6.2.2.2≤9223372036854775807∧(List.length (gapsR (trN (nr, ph, me, en, nm, sz, la, sm, Eng.RowD.mk tb to tn tc tz tf, (mb, h, ge), tr, ask, wy, cl, du, ())) ge (0:Int) x6.1)=0→x6.2.2.2=0))∧(decide (x5.2.1 < trN (nr, ph, me, en, nm, sz, la, sm, Eng.RowD.mk tb to tn tc tz tf, (mb, h, ge), tr, ask, wy, cl, du, ()))=false→∃ (x6:List
      Int × Nat × Nat × Nat), (x5.2.2.2.1=x6.2.1∧x5.2.2.2.2.1=x6.2.2.1∧0=0∧List.length x5.2.2.1=List.length (gapsR (trN (nr, ph, me, en, nm, sz, la, sm, Eng.RowD.mk tb to tn tc tz tf, (mb, h, ge), tr, ask, wy, cl, du, ())) ge (0:Int) x6.1)∧x5.2.2.2.2.2=x6.2.2.2∧decide (List.length x5.2.2.1=0)=decide (List.length (gapsR (trN (nr, ph, me, en, nm, sz, la, sm, Eng.RowD.mk tb to tn tc tz tf, (mb, h, ge), tr,
      ask, wy, cl, du, ())) ge (0:Int) x6.1)=0))∧((x5.2.2.2.1=x6.2.1∧x5.2.2.2.2.1=x6.2.2.1∧decide (List.length x5.2.2.1=0)=decide (List.length (gapsR (trN (nr, ph, me, en, nm, sz, la, sm, Eng.RowD.mk tb to tn tc tz tf, (mb, h, ge), tr, ask, wy, cl, du, ())) ge (0:Int) x6.1)=0)∧List.length (gapsR (trN (nr, ph, me, en, nm, sz, la, sm, Eng.RowD.mk tb to tn tc tz tf, (mb, h, ge), tr, ask, wy, cl, du, ())) ge
      (0:Int) x6.1)≤List.length x5.2.2.1∧List.length (gapsR (trN (nr, ph, me, en, nm, sz, la, sm, Eng.RowD.mk tb to tn tc tz tf, (mb, h, ge), tr, ask, wy, cl, du, ())) ge (0:Int) x6.1)≤x6.2.2.2∧x6.2.2.2≤x5.2.2.2.2.2)∧∀ (i1:Nat), i1 < List.length (gapsR (trN (nr, ph, me, en, nm, sz, la, sm, Eng.RowD.mk tb to tn tc tz tf, (mb, h, ge), tr, ask, wy, cl, du, ())) ge (0:Int) x6.1)→(List.getD x5.2.2.1 i1
      ((0:Int), (0:Int))).1=(List.getD (gapsR (trN (nr, ph, me, en, nm, sz, la, sm, Eng.RowD.mk tb to tn tc tz tf, (mb, h, ge), tr, ask, wy, cl, du, ())) ge (0:Int) x6.1) i1 ((0:Int), (0:Int))).1∧(List.getD x5.2.2.1 i1 ((0:Int), (0:Int))).2=(List.getD (gapsR (trN (nr, ph, me, en, nm, sz, la, sm, Eng.RowD.mk tb to tn tc tz tf, (mb, h, ge), tr, ask, wy, cl, du, ())) ge (0:Int) x6.1) i1 ((0:Int),
      (0:Int))).2)∧Rising x6.1∧(∀ (v5:Int), h v5=true↔v5 ∈ x6.1)∧List.length (gapsR (trN (nr, ph, me, en, nm, sz, la, sm, Eng.RowD.mk tb to tn tc tz tf, (mb, h, ge), tr, ask, wy, cl, du, ())) ge (0:Int) x6.1)≤x6.2.2.2∧x6.2.2.2≤9223372036854775807∧(List.length (gapsR (trN (nr, ph, me, en, nm, sz, la, sm, Eng.RowD.mk tb to tn tc tz tf, (mb, h, ge), tr, ask, wy, cl, du, ())) ge (0:Int) x6.1)=0→x6.2.2.2=0)))) (by kernel_rfl) ?_
  obtain ⟨hb, _⟩ := hp
  have hb : ∀ z, h z = true → 0 ≤ z ∧ z < 65536 := hb
  have hN1 : en = true → la = trN (nr, ph, me, en, nm, sz, la, sm, ⟨tb, to, tn, tc, tz, tf⟩, (mb, h, ge), tr, ask, wy, cl, du, ()) := fun he => (if_pos he).symm
  have hN2 : en = false → (tn : Int) = trN (nr, ph, me, en, nm, sz, la, sm, ⟨tb, to, tn, tc, tz, tf⟩, (mb, h, ge), tr, ask, wy, cl, du, ()) := fun he => (if_neg (fun q => by have q : en = true := q; rw [he] at q; cases q)).symm
  generalize trN (nr, ph, me, en, nm, sz, la, sm, ⟨tb, to, tn, tc, tz, tf⟩, (mb, h, ge), tr, ask, wy, cl, du, ()) = N at hN1 hN2 ⊢
  refine ⟨⟨rfl, rfl⟩, fun v1 h1 => ⟨⟨⟨rfl, rfl⟩, fun he => ⟨⟨rfl, rfl⟩, (), hN1 he, trivial⟩, fun he => ⟨(), h1.trans (hN2 he), trivial⟩⟩, fun _ _ => ⟨hb, rfl, by decide, ⟨rfl, rfl⟩, fun s1 y1 r1 r2 ⟨c1, c2, c3⟩ v3 h3 => ?_⟩⟩⟩
  have hl : lstE ⟨10, y1.1, y1.2.1, 1, s1.length, fun k => .int .i64 (s1.getD k 0), true, false, y1.2.2, 3, decide (s1.length = 0), none⟩ (.slice 10 y1.1 y1.2.1 [] 1 0 s1.length y1.2.2 (decide (s1.length = 0))) = s1 := range_map s1
  rw [hl]
  clear hl
  have hbd : s1.length ≤ 65536 := nodup_len 65536 s1 (r1.imp fun q => by omega) (fun k hk => hb k ((r2 k).2 hk))
  have hgl := gaps_len N ge s1 0
  refine ⟨⟨(0, 0, [], 0, 0, 0), rfl, rfl, nil_eqv rfl rfl rfl, ⟨rfl, rfl, rfl⟩, Nat.zero_le _, rfl, Nat.zero_le _, by decide, fun _ => rfl⟩, ?_⟩
  rintro ⟨i, p, o, b, of, c⟩ ⟨i1, i2, i3, i4, i5⟩
  dsimp only at i1 i2 i3 i4 i5 ⊢
  have hol : o.length ≤ 65537 := by
    have := congrArg List.length i2
    rw [List.length_append] at this
    omega
  have ti : ((i : Nat) : Int).toNat = i := rfl
  rw [ti]
  refine ⟨fun hlt => ?_, fun hge => ?_⟩
  · have hlt := of_decide_eq_true hlt
    have hi : i < s1.length := by omega
    have hd : s1.drop i = s1.getD i 0 :: s1.drop (i + 1) := by
      rw [List.drop_eq_getElem_cons hi]
      simp [List.getD, hi]
    have hm : h (s1.getD i 0) = true := (r2 _).2 (by simp [List.getD, hi])
    have hlk : (if h (s1.getD i 0) = true then ge (s1.getD i 0) else 0) = ge (s1.getD i 0) := if_pos hm
    rw [hd] at i2
    generalize s1.getD i 0 = a at i2 hlk ⊢
    rw [show gapsR N ge p (a :: s1.drop (i + 1)) = (if p < (if N < a then N else a) then [(p, if N < a then N else a)] else []) ++ gapsR N ge (ge a) (s1.drop (i + 1)) from rfl] at i2
    refine ⟨by omega, by omega, ⟨rfl, rfl⟩, hi, fun v4 h4 => ?_⟩
    subst h4
    refine ⟨fun q => ?_, fun q => ?_⟩
    · have q := of_decide_eq_true q
      rw [if_pos q] at i2
      intro v5 h5 b1
      subst h5
      generalize (if N < a then N else a) = e at i2 q ⊢
      refine ⟨⟨rfl, rfl⟩, fun q => q, rfl, Nat.le_refl _, Nat.le_refl _, by omega, by omega, Nat.le_refl _, ⟨rfl, rfl⟩, fun b2 b3 b4 q1 q2 q3 => ⟨⟨rfl, rfl⟩, rfl, by decide, fun v6 h6 => ?_⟩⟩
      have hl1 : (o ++ [(p, e)]).length = o.length + 1 := by simp
      have hz : (decide (o.length = 0) && decide (1 = 0)) = decide ((o ++ [(p, e)]).length = 0) := by rw [hl1]; simp
      refine ⟨(i + 1, ge a, o ++ [(p, e)], b2, b3, b4), h6.trans (l_succ (by omega)), hlk, ⟨rfl, rfl, rfl, hl1.symm, rfl, hz⟩, ⟨⟨rfl, rfl, hz, by rw [hl1]; exact Nat.le_refl _, by rw [hl1]; exact q1, Nat.le_refl _⟩, fun i1 hi1 => ?_⟩, ⟨by omega, ?_, by rw [hl1]; exact q1, q2, fun q => by rw [hl1] at q; omega⟩, by omega⟩
      · rw [getD_snoc o (p, e) i1 (by rw [hl1] at hi1; omega)]
        by_cases q : i1 < o.length
        · rw [if_pos q, if_pos q, if_pos q]; exact ⟨rfl, rfl⟩
        · rw [if_neg q, if_neg q, if_neg q]; exact ⟨rfl, rfl⟩
      · rw [← i2, List.append_assoc]
    · have q := of_decide_eq_false q
      rw [if_neg q] at i2
      refine ⟨⟨rfl, rfl⟩, rfl, by decide, fun v6 h6 => ?_⟩
      exact ⟨(i + 1, ge a, o, b, of, c), h6.trans (l_succ (by omega)), hlk, ⟨rfl, rfl, rfl, rfl, rfl, rfl⟩, ⟨⟨rfl, rfl, rfl, Nat.le_refl _, i3, Nat.le_refl _⟩, fun i1 hi1 => ⟨rfl, rfl⟩⟩, ⟨by omega, i2, i3, i4, i5⟩, by omega⟩
  · have hge := of_decide_eq_false hge
    have hi : s1.drop i = [] := List.drop_eq_nil_of_le (by omega)
    rw [hi, show gapsR N ge p [] = (if p < N then [(p, N)] else []) from rfl] at i2
    refine ⟨fun q => ?_, fun q => ?_⟩
    · have q := of_decide_eq_true q
      rw [if_pos q] at i2
      intro b1
      refine ⟨⟨rfl, rfl⟩, fun q => q, rfl, Nat.le_refl _, Nat.le_refl _, by omega, by omega, Nat.le_refl _, ⟨rfl, rfl⟩, fun b2 b3 b4 q1 q2 q3 => ?_⟩
      have hl1 : (gapsR N ge 0 s1).length = o.length + 1 := by rw [← i2]; simp
      have hz : (decide (o.length = 0) && decide (1 = 0)) = decide ((gapsR N ge 0 s1).length = 0) := by rw [hl1]; simp
      refine ⟨(s1, b2, b3, b4), ⟨rfl, rfl, rfl, hl1.symm, rfl, hz⟩, ⟨⟨rfl, rfl, hz, by dsimp only; omega, by dsimp only; omega, Nat.le_refl _⟩, fun i1 hi1 => ?_⟩, r1, r2, by dsimp only; omega, q2, fun q => by dsimp only at q; omega⟩
      dsimp only at hi1 ⊢
      rw [← i2, getD_snoc o (p, N) i1 (by omega)]
      by_cases q : i1 < o.length
      · rw [if_pos q, if_pos q, if_pos q]; exact ⟨rfl, rfl⟩
      · rw [if_neg q, if_neg q, if_neg q]; exact ⟨rfl, rfl⟩
    · have q := of_decide_eq_false q
      rw [if_neg q, List.append_nil] at i2
      refine ⟨(s1, b, of, c), ?_, ?_, r1, r2, ?_, i4, ?_⟩
      · dsimp only; rw [← i2]; exact ⟨rfl, rfl, rfl, rfl, rfl, rfl⟩
      · dsimp only; rw [← i2]; exact ⟨⟨rfl, rfl, rfl, Nat.le_refl _, i3, Nat.le_refl _⟩, fun i1 hi1 => ⟨rfl, rfl⟩⟩
      · dsimp only; rw [← i2]; exact i3
      · dsimp only; rw [← i2]; exact i5
end Rc
