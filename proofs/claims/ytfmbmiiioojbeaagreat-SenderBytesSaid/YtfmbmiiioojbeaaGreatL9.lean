/-
  OWN WORK. Units of the program: Get of what Put has made.
-/
import Derived.Test.YtfmbmiiioojbeaaGreatEngQ
import Derived.Test.YtfmbmiiioojbeaaGreatL8
namespace Rc
open Go Go.Proofs Eng
set_option linter.unusedVariables false
set_option linter.unusedSimpArgs false
set_option maxRecDepth 100000
set_option maxHeartbeats 4000000
/-- An interface value against nil. -/
def eqIf : SV → SV → Option Bool
  | .iface _ _, .val .nilIface => some false
  | .val .nilIface, .val .nilIface => some true
  | _, _ => none
theorem equalIn_in {P : Program} {w : World} {t : TypeId} (ht : P.underlying t = some (.interface #[])) (d : Nat) (k : TypeId) (z : Value) : (Op.equalIn (d + 1) t (.iface k z) .nilIface).run P w = .ok false w := by
  simp [Op.equalIn, run_underlying ht]
theorem equalIn_nn {P : Program} {w : World} {t : TypeId} (ht : P.underlying t = some (.interface #[])) (d : Nat) : (Op.equalIn (d + 1) t .nilIface .nilIface).run P w = .ok true w := by
  simp [Op.equalIn, run_underlying ht]
theorem guardIn_nn {P : Program} {w : World} {t : TypeId} (ht : P.underlying t = some (.interface #[])) (d : Nat) : (Op.eqGuardIn (d + 1) t .nilIface .nilIface).run P w = .ok false w := by
  simp [Op.eqGuardIn, run_underlying ht]
theorem eqIf_ok {P : Program} {t : TypeId} (ht : P.underlying t = some (.interface #[])) : EqOk P t eqIf := by
  intro x y b h hx hy w u v
  have fin : ∀ (a c : Value), ((Op.equalIn 10000 t a c).run P w = .ok b w) → (∀ op, (eqGuard op t u v a c).run P w = .ok () w) → (binOp .eql t a c = (do pure (.bool (← Op.equal t a c)))) → (binOp .neq t a c = (do pure (.bool (!(← Op.equal t a c))))) →
      (do eqGuard .eql t u v a c; binOp .eql t a c : Sem Value).run P w = .ok (.bool b) w ∧ (do eqGuard .neq t u v a c; binOp .neq t a c : Sem Value).run P w = .ok (.bool (!b)) w := fun a c h1 h2 h3 h4 => by
    have h5 : (Op.equal t a c).run P w = .ok b w := h1
    refine ⟨?_, ?_⟩
    · rw [Sem.run_bind, h2, Result.andThen_ok, h3, Sem.run_bind, h5]
      simp
    · rw [Sem.run_bind, h2, Result.andThen_ok, h4, Sem.run_bind, h5]
      simp
  unfold eqIf at h
  split at h
  · rename_i d z
    injection h with h
    subst h
    refine fin _ _ (equalIn_in ht 9999 d z.den) (fun op => ?_) rfl rfl
    cases op <;> rfl
  · injection h with h
    subst h
    refine fin _ _ (equalIn_nn ht 9999) (fun op => ?_) rfl rfl
    have hin : (Op.eqGuardIn Op.maxDepth t .nilIface .nilIface).run P w = .ok false w := guardIn_nn ht 9999
    cases op <;> first
      | rfl
      | (cases u <;> cases v <;> simp [eqGuard, SV.den, hin])
  · cases h

theorem rd_num {n : Int} {m : Nat} {r : List UInt8} (h0 : 0 ≤ n) (h1 : n < ((256 ^ m : Nat) : Int)) : ((numL ((byI n m ++ r).take m) : Nat) : Int) = n := by
  have e : (byI n m ++ r).take m = byI n m := by
    have := List.take_left (l₁ := byI n m) (l₂ := r)
    rw [byI_len] at this
    exact this
  rw [e, byI, num_by, Nat.mod_eq_of_lt (by omega)]
  omega
theorem rd_drop (n : Int) (m : Nat) (r : List UInt8) : (byI n m ++ r).drop m = r := by
  have := List.drop_left (l₁ := byI n m) (l₂ := r)
  rw [byI_len] at this
  exact this
theorem bodyU_pos {u : U} (h : okU u) : 1 ≤ (bodyU u).length := by
  obtain ⟨_, hf, _⟩ := h
  unfold bodyU
  split
  · simp only [List.length_append, byI_len]; omega
  split
  · simp only [List.length_append, byI_len]; omega
  split
  · simp only [List.length_append, byI_len]; omega
  split
  · simp only [byI_len]; omega
  split
  · simp only [List.length_append, byI_len]; omega
  · simp only [byI_len]; omega
theorem decG_gapsL : ∀ (l : List (Int × Int)), (∀ g ∈ l, 0 ≤ g.1 ∧ g.1 < 65536 ∧ 0 ≤ g.2 ∧ g.2 < 65536) → decG (gapsL l) = l
  | [], _ => rfl
  | g :: r, h => by
    obtain ⟨a0, a1, b0, b1⟩ := h g (List.mem_cons_self ..)
    have ih := decG_gapsL r fun x hx => h x (List.mem_cons_of_mem _ hx)
    have e : gapsL (g :: r) = UInt8.ofNat (g.1.toNat / 256 ^ 1 % 256) :: UInt8.ofNat (g.1.toNat / 256 ^ 0 % 256) :: UInt8.ofNat (g.2.toNat / 256 ^ 1 % 256) :: UInt8.ofNat (g.2.toNat / 256 ^ 0 % 256) :: gapsL r := rfl
    have e1 : ((numL (byN g.1.toNat 2) : Nat) : Int) = g.1 := by rw [num_by, Nat.mod_eq_of_lt (by omega)]; omega
    have e2 : ((numL (byN g.2.toNat 2) : Nat) : Int) = g.2 := by rw [num_by, Nat.mod_eq_of_lt (by omega)]; omega
    rw [e, decG, ih]
    exact congrArg (· :: r) (Prod.ext e1 e2)
def goodB (b : List UInt8) : Prop := ∃ u, (okU u ∧ inR u.sum 0 4294967295) ∧ b = putU u
open Classical in
noncomputable def unB (b : List UInt8) : U := if h : goodB b then h.choose else ⟨0, 0, [], 0, 0, 0, [], 0, 0, false, []⟩
theorem unB_ok {b : List UInt8} (h : goodB b) : (okU (unB b) ∧ inR (unB b).sum 0 4294967295) ∧ b = putU (unB b) := by
  unfold unB
  rw [dif_pos h]
  exact h.choose_spec
/-- A unit's value, its gaps in a row of tag g. -/
def uSV (u : U) (g : Nat) (y : RowY) : SV := .agg [.int .i64 u.kind, .int .i64 u.number, .str u.name, .int .i64 u.size, .int .u32 u.sum, .int .i64 u.offset, .str u.data, .int .i64 u.why, .int .i64 u.of, .bool u.me, .slice g y.1 y.2.1 [] 2 0 u.gaps.length y.2.2 (decide (u.gaps.length = 0))]
def uRow (u : U) (g : Nat) (y : RowY) : Ent := ⟨g, y.1, y.2.1, 2, u.gaps.length, gapG u.gaps, true, false, y.2.2, 45, decide (u.gaps.length = 0), none⟩
noncomputable def getC := ecC aStr (fun x => [goodB x.1]) (fun x (y : RowY) => (unB x.1).gaps.length ≤ y.2.2 ∧ y.2.2 ≤ 9223372036854775807 ∧ ((unB x.1).gaps.length = 0 → y.2.2 = 0)) (fun x y => .tup [uSV (unB x.1) 0 y, .int .i64 0]) (fun x y => [uRow (unB x.1) 0 y]) 1
def EGT : Env := (((((((((((((E0.addE 71 numberC).addE 88 restC).addE 106 getGapsC).addE 57 summedC).addP 69 withinC).addP 58 kindsC).addP 55 validC).addQ 20 eqIf)).inl 87 Tryz.f87 fun _ _ => []).inl 92 Tryz.f92 fun _ _ => []).inl 97 Tryz.f97 fun _ _ => []).inl 101 Tryz.f101 fun _ _ => []).inl 110 Tryz.f110 fun _ _ => []
theorem EGT_ok : EnvOk Tryz.prog EGT := (((((((((((((E0_ok.addE number_ok).addE rest_ok).addE getGaps_ok).addE summed_ok).addP within_ok).addP kinds_ok).addP valid_ok).addQ (eqIf_ok (by kernel_rfl)))).inl _ Tryz.func87 rfl (by kernel_rfl)).inl _ Tryz.func92 rfl (by kernel_rfl)).inl _ Tryz.func97 rfl (by kernel_rfl)).inl _ Tryz.func101 rfl (by kernel_rfl)).inl _ Tryz.func110 rfl (by kernel_rfl)
theorem get_ok : EcOk Tryz.prog 44 getC := by
  refine ecC_runD (f0 := 70) (fun _ => EGT_ok) Tryz.func44 rfl (by kernel_rfl) Tryz.func70 rfl (by kernel_rfl) [] (fun x => [.draw 12 (.take 0 (.take 1 (.take 5 (.br 2 (.case 41 [1, 2, 3, 4, 5, 6] (.take 3 (.take 4 (.br 6 .fin .stop)))) .stop)))) [2, 5]]) (fun x => [.det 2, .det 4]) (fun _ => Nat.le_of_ble_eq_true rfl) (fun ⟨b, ()⟩ hp hw => ?_)
  refine vc_of (q :=
      ∀ (b1 b2:Nat) (v1:Int), v1=(↑(List.length b):Int)→∀ (t1:Bool), t1=decide (inR v1 (6:Int) (167:Int))→((!t1)=true→(b1=b1∧0=0)∧(b2=b2∧0=0)∧(b1=b1∧0=0)∧(b2=b2∧0=0)∧∃ (x1:Nat × Nat × Nat), (((0:Int)=(unB b).kind∧(0:Int)=(unB b).number∧[]=(unB b).name∧(0:Int)=(unB b).size∧(0:Int)=(unB b).sum∧(0:Int)=(unB b).offset∧[]=(unB b).data∧(0:Int)=(unB b).why∧(0:Int)=(unB b).of∧false=(unB b).me∧SVeq (SV.slice
      999999 0 0 [] 0 0 0 0 true) (SV.slice 0 x1.1 x1.2.1 [] 2 0 (List.length ((unB b).gaps)) x1.2.2 (decide (List.length ((unB b).gaps)=0))))∧(6:Int)=0)∧(decide (List.length ((unB b).gaps)=0)=true∧List.length ((unB b).gaps)=0∧x1.2.2=0)∧List.length ((unB b).gaps)≤x1.2.2∧x1.2.2≤9223372036854775807∧(List.length ((unB b).gaps)=0→x1.2.2=0))∧((!t1)=false→∀ (v2:Int), v2=(↑(List.length b):Int)→∀ (v3:Int),
      v3=IntKind.i64.wrap (v2 - (2:Int))→0≤v3∧v3≤(↑(List.length b):Int)∧(0:Int)≤0∧0≤v3∧∀ (b3 b4:Nat), List.length (List.drop (Int.toNat (0:Int)) (List.take (Int.toNat v3) b))≤b4→b4≤9223372036854775807→(b3=b3∧0=0)∧(0=0∧∀ (k1:Nat), k1 < List.length (List.drop (Int.toNat (0:Int)) (List.take (Int.toNat v3) b))→true=true)∧∀ (x'1:Eng.OwnD Int × Unit), x'1=(Eng.OwnD.mk b3 0 (List.length (List.drop (Int.toNat
      (0:Int)) (List.take (Int.toNat v3) b))) b4 false (List.length (List.drop (Int.toNat (0:Int)) (List.take (Int.toNat v3) b))) b4 false fun (k:Nat) ↦ (↑(UInt8.toNat (List.getD (List.drop (Int.toNat (0:Int)) (List.take (Int.toNat v3) b)) k 0)):Int), ())→Eng.OwnD.n (Prod.fst x'1)≤4294967296∧Eng.OwnD.n (Prod.fst x'1)≤Eng.OwnD.m (Prod.fst x'1)∧Eng.OwnD.c (Prod.fst x'1)≤Eng.OwnD.cap (Prod.fst
      x'1)∧(Eng.OwnD.z (Prod.fst x'1)=true→Eng.OwnD.ez (Prod.fst x'1)=true)∧∀ (y1:Unit), True→∀ (s1:List UInt8), s1=sealL (Byt.of (Eng.OwnD.f (Prod.fst x'1)) (Eng.OwnD.n (Prod.fst x'1)))→((!s1==b)=true→(b1=b1∧0=0)∧(b2=b2∧0=0)∧(b1=b1∧0=0)∧(b2=b2∧0=0)∧∃ (x2:Nat × Nat × Nat), (((0:Int)=(unB b).kind∧(0:Int)=(unB b).number∧[]=(unB b).name∧(0:Int)=(unB b).size∧(0:Int)=(unB b).sum∧(0:Int)=(unB b).offset∧[]=(unB
      b).data∧(0:Int)=(unB b).why∧(0:Int)=(unB b).of∧false=(unB b).me∧SVeq (SV.slice 999999 0 0 [] 0 0 0 0 true) (SV.slice 0 x2.1 x2.2.1 [] 2 0 (List.length ((unB b).gaps)) x2.2.2 (decide (List.length ((unB b).gaps)=0))))∧(370:Int)=0)∧(decide (List.length ((unB b).gaps)=0)=true∧List.length ((unB b).gaps)=0∧x2.2.2=0)∧List.length ((unB b).gaps)≤x2.2.2∧x2.2.2≤9223372036854775807∧(List.length ((unB
      b).gaps)=0→x2.2.2=0))∧((!s1==b)=false→0≤v3∧v3≤(↑(List.length b):Int)∧(0:Int)≤0∧0≤v3∧∀ (b5:Nat), (b5=b5∧0=0)∧∀ (x'2:(Nat × Nat × List UInt8 × Unit) × Int × Unit), x'2=((b5, 0, List.drop (Int.toNat (0:Int)) (List.take (Int.toNat v3) b), ()), (1:Int), ())→((0:Int)≤(Prod.snd x'2).1∧(Prod.snd x'2).1≤(7:Int))∧(Prod.snd x'2).1≤(↑(List.length ((((Prod.fst x'2).2.2)).1)):Int)∧∀ (y2:Unit), True→∀ (v4:Int),
      v4=(↑(numL (List.take (Int.toNat ((Prod.snd x'2).1)) ((((Prod.fst x'2).2.2)).1))):Int)→(b1=b1∧0=0)∧((Prod.fst x'2).1=b5∧((Prod.fst x'2).2.1)=0)∧∀ (x'3:(Nat × Nat × List UInt8 × Unit) × Int × Unit), x'3=((b5, 0, List.drop (Int.toNat ((Prod.snd x'2).1)) ((((Prod.fst x'2).2.2)).1), ()), (2:Int), ())→((0:Int)≤(Prod.snd x'3).1∧(Prod.snd x'3).1≤(7:Int))∧(Prod.snd x'3).1≤(↑(List.length ((((Prod.fst
      x'3).2.2)).1)):Int)∧∀ (y3:Unit), True→∀ (v5:Int), v5=(↑(numL (List.take (Int.toNat ((Prod.snd x'3).1)) ((((Prod.fst x'3).2.2)).1))):Int)→(b1=b1∧0=0)∧(b1=b1∧0=0)∧∀ (t2:Bool), t2=decide (inR v4 (1:Int) (6:Int))→((!t2)=true→(b1=b1∧0=0)∧(b2=b2∧0=0)∧(b1=b1∧0=0)∧(b2=b2∧0=0)∧∃ (x3:Nat × Nat × Nat), (((0:Int)=(unB b).kind∧(0:Int)=(unB b).number∧[]=(unB b).name∧(0:Int)=(unB b).size∧(0:Int)=(unB
      b).sum∧(0:Int)=(unB b).offset∧[]=(unB b).data∧(0:Int)=(unB b).why∧(0:Int)=(unB b).of∧false=(unB b).me∧SVeq (SV.slice 999999 0 0 [] 0 0 0 0 true) (SV.slice 0 x3.1 x3.2.1 [] 2 0 (List.length ((unB b).gaps)) x3.2.2 (decide (List.length ((unB b).gaps)=0))))∧(6:Int)=0)∧(decide (List.length ((unB b).gaps)=0)=true∧List.length ((unB b).gaps)=0∧x3.2.2=0)∧List.length ((unB
      b).gaps)≤x3.2.2∧x3.2.2≤9223372036854775807∧(List.length ((unB b).gaps)=0→x3.2.2=0))∧((!t2)=false→((b1=b1∧0=0)∧(v4=(1:Int)∨v4=2∨v4=3∨v4=4∨v4=5∨v4=6)∧(v4=(1:Int)→(0:Int)≤1∧1 < (↑(7:Nat):Int)∧(((Prod.fst x'3).1=b5∧((Prod.fst x'3).2.1)=0)∧∀ (x'4:(Nat × Nat × List UInt8 × Unit) × Int × Unit), x'4=((b5, 0, List.drop (Int.toNat ((Prod.snd x'3).1)) ((((Prod.fst x'3).2.2)).1), ()), (2:Int),
      ())→((0:Int)≤(Prod.snd x'4).1∧(Prod.snd x'4).1≤(7:Int))∧(Prod.snd x'4).1≤(↑(List.length ((((Prod.fst x'4).2.2)).1)):Int)∧∀ (y4:Unit), True→∀ (v6:Int), v6=(↑(numL (List.take (Int.toNat ((Prod.snd x'4).1)) ((((Prod.fst x'4).2.2)).1))):Int)→(b1=b1∧0=0)∧((Prod.fst x'4).1=b5∧((Prod.fst x'4).2.1)=0)∧∀ (x'5:(Nat × Nat × List UInt8 × Unit) × Unit), x'5=((b5, 0, List.drop (Int.toNat ((Prod.snd x'4).1))
      ((((Prod.fst x'4).2.2)).1), ()), ())→List.length ((((Prod.fst x'5).2.2)).1)≤281474976710656∧∀ (y5:Unit), True→∀ (s2:List UInt8), s2=(((Prod.fst x'5).2.2)).1→(b1=b1∧0=0)∧((Prod.fst x'5).1=b5∧((Prod.fst x'5).2.1)=0)∧((!([]:List UInt8)==[])=false→b1=b1∧0=0)∧((!([]:List UInt8)==[])=false→true=true)∧((!([]:List UInt8)==[])=false→0≤8796093022208)∧∀ (t3:Bool), t3=decide (okU (uOf (v4, v5, s2, v6, (0:Int),
      (0:Int), [], (0:Int), (0:Int), false, Eng.RowD.mk 0 0 0 0 true fun (x:Nat) ↦ ((0:Int), (0:Int), ()), ())))→∀ (t4:Bool), (t4=if (!([]:List UInt8)==[])=true then true else !t3)→(t4=true→(b1=b1∧0=0)∧(b2=b2∧0=0)∧(b1=b1∧0=0)∧(b2=b2∧0=0)∧∃ (x4:Nat × Nat × Nat), (((0:Int)=(unB b).kind∧(0:Int)=(unB b).number∧[]=(unB b).name∧(0:Int)=(unB b).size∧(0:Int)=(unB b).sum∧(0:Int)=(unB b).offset∧[]=(unB
      b).data∧(0:Int)=(unB b).why∧(0:Int)=(unB b).of∧false=(unB b).me∧SVeq (SV.slice 999999 0 0 [] 0 0 0 0 true) (SV.slice 0 x4.1 x4.2.1 [] 2 0 (List.length ((unB b).gaps)) x4.2.2 (decide (List.length ((unB b).gaps)=0))))∧(6:Int)=0)∧(decide (List.length ((unB b).gaps)=0)=true∧List.length ((unB b).gaps)=0∧x4.2.2=0)∧List.length ((unB b).gaps)≤x4.2.2∧x4.2.2≤9223372036854775807∧(List.length ((unB
      b).gaps)=0→x4.2.2=0))∧(t4=false→(b1=b1∧0=0)∧(b1=b1∧0=0)∧(b2=b2∧0=0)∧(b1=b1∧0=0)∧(b2=b2∧0=0)∧∃ (x5:Nat × Nat × Nat), ((v4=(unB b).kind∧v5=(unB b).number∧s2=(unB b).name∧v6=(unB b).size∧(0:Int)=(unB b).sum∧(0:Int)=(unB b).offset∧[]=(unB b).data∧(0:Int)=(unB b).why∧(0:Int)=(unB b).of∧false=(unB b).me∧SVeq (SV.slice 999999 0 0 [] 0 0 0 0 true) (SV.slice 0 x5.1 x5.2.1 [] 2 0 (List.length ((unB b).gaps))
      x5.2.2 (decide (List.length ((unB b).gaps)=0))))∧(0:Int)=0)∧(decide (List.length ((unB b).gaps)=0)=true∧List.length ((unB b).gaps)=0∧x5.2.2=0)∧List.length ((unB b).gaps)≤x5.2.2∧x5.2.2≤9223372036854775807∧(List.length ((unB b).gaps)=0→x5.2.2=0)))∧True)∧(v4=(2:Int)→(0:Int)≤2∧2 < (↑(7:Nat):Int)∧(((Prod.fst x'3).1=b5∧((Prod.fst x'3).2.1)=0)∧∀ (x'5:(Nat × Nat × List UInt8 × Unit) × Int × Unit),
      x'5=((b5, 0, List.drop (Int.toNat ((Prod.snd x'3).1)) ((((Prod.fst x'3).2.2)).1), ()), (2:Int), ())→((0:Int)≤(Prod.snd x'5).1∧(Prod.snd x'5).1≤(7:Int))∧(Prod.snd x'5).1≤(↑(List.length ((((Prod.fst x'5).2.2)).1)):Int)∧∀ (y4:Unit), True→∀ (v6:Int), v6=(↑(numL (List.take (Int.toNat ((Prod.snd x'5).1)) ((((Prod.fst x'5).2.2)).1))):Int)→(b1=b1∧0=0)∧((Prod.fst x'5).1=b5∧((Prod.fst x'5).2.1)=0)∧∀
      (x'6:(Nat × Nat × List UInt8 × Unit) × Unit), x'6=((b5, 0, List.drop (Int.toNat ((Prod.snd x'5).1)) ((((Prod.fst x'5).2.2)).1), ()), ())→List.length ((((Prod.fst x'6).2.2)).1)≤281474976710656∧∀ (y5:Unit), True→∀ (s2:List UInt8), s2=(((Prod.fst x'6).2.2)).1→(b1=b1∧0=0)∧((Prod.fst x'6).1=b5∧((Prod.fst x'6).2.1)=0)∧((!([]:List UInt8)==[])=false→b1=b1∧0=0)∧((!([]:List
      UInt8)==[])=false→true=true)∧((!([]:List UInt8)==[])=false→0≤8796093022208)∧∀ (t3:Bool), t3=decide (okU (uOf (v4, v5, [], (0:Int), (0:Int), v6, s2, (0:Int), (0:Int), false, Eng.RowD.mk 0 0 0 0 true fun (x:Nat) ↦ ((0:Int), (0:Int), ()), ())))→∀ (t4:Bool), (t4=if (!([]:List UInt8)==[])=true then true else !t3)→(t4=true→(b1=b1∧0=0)∧(b2=b2∧0=0)∧(b1=b1∧0=0)∧(b2=b2∧0=0)∧∃ (x4:Nat × Nat × Nat),
      (((0:Int)=(unB b).kind∧(0:Int)=(unB b).number∧[]=(unB b).name∧(0:Int)=(unB b).size∧(0:Int)=(unB b).sum∧(0:Int)=(unB b).offset∧[]=(unB b).data∧(0:Int)=(unB b).why∧(0:Int)=(unB b).of∧false=(unB b).me∧SVeq (SV.slice 999999 0 0 [] 0 0 0 0 true) (SV.slice 0 x4.1 x4.2.1 [] 2 0 (List.length ((unB b).gaps)) x4.2.2 (decide (List.length ((unB b).gaps)=0))))∧(6:Int)=0)∧(decide (List.length ((unB
      b).gaps)=0)=true∧List.length ((unB b).gaps)=0∧x4.2.2=0)∧List.length ((unB b).gaps)≤x4.2.2∧x4.2.2≤9223372036854775807∧(List.length ((unB b).gaps)=0→x4.2.2=0))∧(t4=false→(b1=b1∧0=0)∧(b1=b1∧0=0)∧(b2=b2∧0=0)∧(b1=b1∧0=0)∧(b2=b2∧0=0)∧∃ (x5:Nat × Nat × Nat), ((v4=(unB b).kind∧v5=(unB b).number∧[]=(unB b).name∧(0:Int)=(unB b).size∧(0:Int)=(unB b).sum∧v6=(unB b).offset∧s2=(unB b).data∧(0:Int)=(unB
      b).why∧(0:Int)=(unB b).of∧false=(unB b).me∧SVeq (SV.slice 999999 0 0 [] 0 0 0 0 true) (SV.slice 0 x5.1 x5.2.1 [] 2 0 (List.length ((unB b).gaps)) x5.2.2 (decide (List.length ((unB b).gaps)=0))))∧(0:Int)=0)∧(decide (List.length ((unB b).gaps)=0)=true∧List.length ((unB b).gaps)=0∧x5.2.2=0)∧List.length ((unB b).gaps)≤x5.2.2∧x5.2.2≤9223372036854775807∧(List.length ((unB
      b).gaps)=0→x5.2.2=0)))∧True)∧(v4=(3:Int)→(0:Int)≤3∧3 < (↑(7:Nat):Int)∧(((Prod.fst x'3).1=b5∧((Prod.fst x'3).2.1)=0)∧∀ (x'6:(Nat × Nat × List UInt8 × Unit) × Int × Unit), x'6=((b5, 0, List.drop (Int.toNat ((Prod.snd x'3).1)) ((((Prod.fst x'3).2.2)).1), ()), (1:Int), ())→((0:Int)≤(Prod.snd x'6).1∧(Prod.snd x'6).1≤(7:Int))∧(Prod.snd x'6).1≤(↑(List.length ((((Prod.fst x'6).2.2)).1)):Int)∧∀ (y4:Unit),
      True→∀ (v6:Int), v6=(↑(numL (List.take (Int.toNat ((Prod.snd x'6).1)) ((((Prod.fst x'6).2.2)).1))):Int)→(b1=b1∧0=0)∧((Prod.fst x'6).1=b5∧((Prod.fst x'6).2.1)=0)∧∀ (x'7:(Nat × Nat × List UInt8 × Unit) × Int × Unit), x'7=((b5, 0, List.drop (Int.toNat ((Prod.snd x'6).1)) ((((Prod.fst x'6).2.2)).1), ()), (2:Int), ())→((0:Int)≤(Prod.snd x'7).1∧(Prod.snd x'7).1≤(7:Int))∧(Prod.snd x'7).1≤(↑(List.length
      ((((Prod.fst x'7).2.2)).1)):Int)∧∀ (y5:Unit), True→∀ (v7:Int), v7=(↑(numL (List.take (Int.toNat ((Prod.snd x'7).1)) ((((Prod.fst x'7).2.2)).1))):Int)→(b1=b1∧0=0)∧((Prod.fst x'7).1=b5∧((Prod.fst x'7).2.1)=0)∧∀ (x'8:(Nat × Nat × List UInt8 × Unit) × Int × Unit), x'8=((b5, 0, List.drop (Int.toNat ((Prod.snd x'7).1)) ((((Prod.fst x'7).2.2)).1), ()), (4:Int), ())→((0:Int)≤(Prod.snd x'8).1∧(Prod.snd
      x'8).1≤(7:Int))∧(Prod.snd x'8).1≤(↑(List.length ((((Prod.fst x'8).2.2)).1)):Int)∧∀ (y6:Unit), True→∀ (v8:Int), v8=(↑(numL (List.take (Int.toNat ((Prod.snd x'8).1)) ((((Prod.fst x'8).2.2)).1))):Int)→∀ (v9:Int), v9=IntKind.u32.wrap v8→(b1=b1∧0=0)∧((Prod.fst x'8).1=b5∧((Prod.fst x'8).2.1)=0)∧((!List.drop (Int.toNat ((Prod.snd x'8).1)) ((((Prod.fst x'8).2.2)).1)==[])=false→b1=b1∧0=0)∧((!List.drop
      (Int.toNat ((Prod.snd x'8).1)) ((((Prod.fst x'8).2.2)).1)==[])=false→true=true)∧((!List.drop (Int.toNat ((Prod.snd x'8).1)) ((((Prod.fst x'8).2.2)).1)==[])=false→0≤8796093022208)∧∀ (t3:Bool), t3=decide (okU (uOf (v4, v5, [], v7, v9, (0:Int), [], v6, (0:Int), false, Eng.RowD.mk 0 0 0 0 true fun (x:Nat) ↦ ((0:Int), (0:Int), ()), ())))→∀ (t4:Bool), (t4=if (!List.drop (Int.toNat ((Prod.snd x'8).1))
      ((((Prod.fst x'8).2.2)).1)==[])=true then true else !t3)→(t4=true→(b1=b1∧0=0)∧(b2=b2∧0=0)∧(b1=b1∧0=0)∧(b2=b2∧0=0)∧∃ (x4:Nat × Nat × Nat), (((0:Int)=(unB b).kind∧(0:Int)=(unB b).number∧[]=(unB b).name∧(0:Int)=(unB b).size∧(0:Int)=(unB b).sum∧(0:Int)=(unB b).offset∧[]=(unB b).data∧(0:Int)=(unB b).why∧(0:Int)=(unB b).of∧false=(unB b).me∧SVeq (SV.slice 999999 0 0 [] 0 0 0 0 true) (SV.slice 0 x4.1
      x4.2.1 [] 2 0 (List.length ((unB b).gaps)) x4.2.2 (decide (List.length ((unB b).gaps)=0))))∧(6:Int)=0)∧(decide (List.length ((unB b).gaps)=0)=true∧List.length ((unB b).gaps)=0∧x4.2.2=0)∧List.length ((unB b).gaps)≤x4.2.2∧x4.2.2≤9223372036854775807∧(List.length ((unB b).gaps)=0→x4.2.2=0))∧(t4=false→(b1=b1∧0=0)∧(b1=b1∧0=0)∧(b2=b2∧0=0)∧(b1=b1∧0=0)∧(b2=b2∧0=0)∧∃ (x5:Nat × Nat × Nat), ((v4=(unB
      b).kind∧v5=(unB b).number∧[]=(unB b).name∧v7=(unB b).size∧v9=(unB b).sum∧(0:Int)=(unB b).offset∧[]=(unB b).data∧v6=(unB b).why∧(0:Int)=(unB b).of∧false=(unB b).me∧SVeq (SV.slice 999999 0 0 [] 0 0 0 0 true) (SV.slice 0 x5.1 x5.2.1 [] 2 0 (List.length ((unB b).gaps)) x5.2.2 (decide (List.length ((unB b).gaps)=0))))∧(0:Int)=0)∧(decide (List.length ((unB b).gaps)=0)=true∧List.length ((unB
      b).gaps)=0∧x5.2.2=0)∧List.length ((unB b).gaps)≤x5.2.2∧x5.2.2≤9223372036854775807∧(List.length ((unB b).gaps)=0→x5.2.2=0)))∧True)∧(v4=(4:Int)→(0:Int)≤4∧4 < (↑(7:Nat):Int)∧(((Prod.fst x'3).1=b5∧((Prod.fst x'3).2.1)=0)∧∀ (x'7:(Nat × Nat × List UInt8 × Unit) × Int × Unit), x'7=((b5, 0, List.drop (Int.toNat ((Prod.snd x'3).1)) ((((Prod.fst x'3).2.2)).1), ()), (1:Int), ())→((0:Int)≤(Prod.snd
      x'7).1∧(Prod.snd x'7).1≤(7:Int))∧(Prod.snd x'7).1≤(↑(List.length ((((Prod.fst x'7).2.2)).1)):Int)∧∀ (y4:Unit), True→∀ (v6:Int), v6=(↑(numL (List.take (Int.toNat ((Prod.snd x'7).1)) ((((Prod.fst x'7).2.2)).1))):Int)→(b1=b1∧0=0)∧((Prod.fst x'7).1=b5∧((Prod.fst x'7).2.1)=0)∧((!List.drop (Int.toNat ((Prod.snd x'7).1)) ((((Prod.fst x'7).2.2)).1)==[])=false→b1=b1∧0=0)∧((!List.drop (Int.toNat ((Prod.snd
      x'7).1)) ((((Prod.fst x'7).2.2)).1)==[])=false→true=true)∧((!List.drop (Int.toNat ((Prod.snd x'7).1)) ((((Prod.fst x'7).2.2)).1)==[])=false→0≤8796093022208)∧∀ (t3:Bool), t3=decide (okU (uOf (v4, v5, [], (0:Int), (0:Int), (0:Int), [], v6, (0:Int), false, Eng.RowD.mk 0 0 0 0 true fun (x:Nat) ↦ ((0:Int), (0:Int), ()), ())))→∀ (t4:Bool), (t4=if (!List.drop (Int.toNat ((Prod.snd x'7).1)) ((((Prod.fst
      x'7).2.2)).1)==[])=true then true else !t3)→(t4=true→(b1=b1∧0=0)∧(b2=b2∧0=0)∧(b1=b1∧0=0)∧(b2=b2∧0=0)∧∃ (x4:Nat × Nat × Nat), (((0:Int)=(unB b).kind∧(0:Int)=(unB b).number∧[]=(unB b).name∧(0:Int)=(unB b).size∧(0:Int)=(unB b).sum∧(0:Int)=(unB b).offset∧[]=(unB b).data∧(0:Int)=(unB b).why∧(0:Int)=(unB b).of∧false=(unB b).me∧SVeq (SV.slice 999999 0 0 [] 0 0 0 0 true) (SV.slice 0 x4.1 x4.2.1 [] 2 0
      (List.length ((unB b).gaps)) x4.2.2 (decide (List.length ((unB b).gaps)=0))))∧(6:Int)=0)∧(decide (List.length ((unB b).gaps)=0)=true∧List.length ((unB b).gaps)=0∧x4.2.2=0)∧List.length ((unB b).gaps)≤x4.2.2∧x4.2.2≤9223372036854775807∧(List.length ((unB b).gaps)=0→x4.2.2=0))∧(t4=false→(b1=b1∧0=0)∧(b1=b1∧0=0)∧(b2=b2∧0=0)∧(b1=b1∧0=0)∧(b2=b2∧0=0)∧∃ (x5:Nat × Nat × Nat), ((v4=(unB b).kind∧v5=(unB
      b).number∧[]=(unB b).name∧(0:Int)=(unB b).size∧(0:Int)=(unB b).sum∧(0:Int)=(unB b).offset∧[]=(unB b).data∧v6=(unB b).why∧(0:Int)=(unB b).of∧false=(unB b).me∧SVeq (SV.slice 999999 0 0 [] 0 0 0 0 true) (SV.slice 0 x5.1 x5.2.1 [] 2 0 (List.length ((unB b).gaps)) x5.2.2 (decide (List.length ((unB b).gaps)=0))))∧(0:Int)=0)∧(decide (List.length ((unB b).gaps)=0)=true∧List.length ((unB
      b).gaps)=0∧x5.2.2=0)∧List.length ((unB b).gaps)≤x5.2.2∧x5.2.2≤9223372036854775807∧(List.length ((unB b).gaps)=0→x5.2.2=0)))∧True)∧(v4=(5:Int)→(0:Int)≤5∧5 < (↑(7:Nat):Int)∧(((Prod.fst x'3).1=b5∧((Prod.fst x'3).2.1)=0)∧(b1=b1∧0=0)∧true=true∧∀ (x'8:(Nat × Nat × List UInt8 × Unit) × (Nat × Nat × Int × Int × List UInt8 × Int × Int × Int × List UInt8 × Int × Int × Bool × Unit × Unit) × Unit), x'8=((b5,
      0, List.drop (Int.toNat ((Prod.snd x'3).1)) ((((Prod.fst x'3).2.2)).1), ()), (b1, 0, v4, v5, [], (0:Int), (0:Int), (0:Int), [], (0:Int), (0:Int), false, (), ()), ())→List.length ((((Prod.fst x'8).2.2)).1) % 4=1∧List.length ((((Prod.fst x'8).2.2)).1)≤200∧UInt8.toNat (List.getD ((((Prod.fst x'8).2.2)).1) 0 0)≤1∧∀ (y4:Nat × Nat × Nat), gN ((((Prod.fst
      x'8).2.2)).1)≤y4.2.2∧y4.2.2≤9223372036854775807∧(gN ((((Prod.fst x'8).2.2)).1)=0→y4.2.2=0)→((Prod.fst x'8).1=b5∧((Prod.fst x'8).2.1)=0)∧((!List.drop (1+4*gN ((((Prod.fst x'8).2.2)).1)) ((((Prod.fst x'8).2.2)).1)==[])=false→((Prod.snd x'8).1).1=b1∧(((Prod.snd x'8).1).2.1)=0)∧((!List.drop (1+4*gN ((((Prod.fst x'8).2.2)).1)) ((((Prod.fst x'8).2.2)).1)==[])=false→gN ((((Prod.fst x'8).2.2)).1)≤gN
      ((((Prod.fst x'8).2.2)).1))∧((!List.drop (1+4*gN ((((Prod.fst x'8).2.2)).1)) ((((Prod.fst x'8).2.2)).1)==[])=false→∀ (k2:Nat), k2 < gN ((((Prod.fst x'8).2.2)).1)→true=true)∧((!List.drop (1+4*gN ((((Prod.fst x'8).2.2)).1)) ((((Prod.fst x'8).2.2)).1)==[])=false→y4.1=y4.1∧y4.2.1=y4.2.1)∧((!List.drop (1+4*gN ((((Prod.fst x'8).2.2)).1)) ((((Prod.fst x'8).2.2)).1)==[])=false→gN ((((Prod.fst
      x'8).2.2)).1)≤8796093022208)∧∀ (t3:Bool), t3=decide (okU (uOf (((((Prod.snd x'8).1).2.2)).1, (((((Prod.snd x'8).1).2.2)).2).1, ((((((Prod.snd x'8).1).2.2)).2).2).1, (((((((Prod.snd x'8).1).2.2)).2).2).2).1, ((((((((Prod.snd x'8).1).2.2)).2).2).2).2).1, (((((((((Prod.snd x'8).1).2.2)).2).2).2).2).2).1, ((((((((((Prod.snd x'8).1).2.2)).2).2).2).2).2).2).1, (((((((((((Prod.snd
      x'8).1).2.2)).2).2).2).2).2).2).2).1, ((((((((((((Prod.snd x'8).1).2.2)).2).2).2).2).2).2).2).2).1, List.getD ((((Prod.fst x'8).2.2)).1) 0 0==(1:UInt8), Eng.RowD.mk y4.1 y4.2.1 (gN ((((Prod.fst x'8).2.2)).1)) y4.2.2 (decide (gN ((((Prod.fst x'8).2.2)).1)=0)) fun (k:Nat) ↦ ((List.getD (List.take (gN ((((Prod.fst x'8).2.2)).1)) (decG (List.drop 1 ((((Prod.fst x'8).2.2)).1)))) k ((0:Int), (0:Int))).1,
      (List.getD (List.take (gN ((((Prod.fst x'8).2.2)).1)) (decG (List.drop 1 ((((Prod.fst x'8).2.2)).1)))) k ((0:Int), (0:Int))).2, ()), ())))→∀ (t4:Bool), (t4=if (!List.drop (1+4*gN ((((Prod.fst x'8).2.2)).1)) ((((Prod.fst x'8).2.2)).1)==[])=true then true else !t3)→(t4=true→(((Prod.snd x'8).1).1=b1∧(((Prod.snd x'8).1).2.1)=0)∧(b2=b2∧0=0)∧(((Prod.snd x'8).1).1=b1∧(((Prod.snd
      x'8).1).2.1)=0)∧(b2=b2∧0=0)∧∃ (x4:Nat × Nat × Nat), (((0:Int)=(unB b).kind∧(0:Int)=(unB b).number∧[]=(unB b).name∧(0:Int)=(unB b).size∧(0:Int)=(unB b).sum∧(0:Int)=(unB b).offset∧[]=(unB b).data∧(0:Int)=(unB b).why∧(0:Int)=(unB b).of∧false=(unB b).me∧SVeq (SV.slice 999999 0 0 [] 0 0 0 0 true) (SV.slice 0 x4.1 x4.2.1 [] 2 0 (List.length ((unB b).gaps)) x4.2.2 (decide (List.length ((unB
      b).gaps)=0))))∧(6:Int)=0)∧(decide (List.length ((unB b).gaps)=0)=true∧List.length ((unB b).gaps)=0∧x4.2.2=0)∧List.length ((unB b).gaps)≤x4.2.2∧x4.2.2≤9223372036854775807∧(List.length ((unB b).gaps)=0→x4.2.2=0))∧(t4=false→(((Prod.snd x'8).1).1=b1∧(((Prod.snd x'8).1).2.1)=0)∧(((Prod.snd x'8).1).1=b1∧(((Prod.snd x'8).1).2.1)=0)∧(b2=b2∧0=0)∧(((Prod.snd x'8).1).1=b1∧(((Prod.snd
      x'8).1).2.1)=0)∧(b2=b2∧0=0)∧∃ (x5:Nat × Nat × Nat), ((((((Prod.snd x'8).1).2.2)).1=(unB b).kind∧(((((Prod.snd x'8).1).2.2)).2).1=(unB b).number∧((((((Prod.snd x'8).1).2.2)).2).2).1=(unB b).name∧(((((((Prod.snd x'8).1).2.2)).2).2).2).1=(unB b).size∧((((((((Prod.snd x'8).1).2.2)).2).2).2).2).1=(unB b).sum∧(((((((((Prod.snd x'8).1).2.2)).2).2).2).2).2).1=(unB b).offset∧((((((((((Prod.snd
      x'8).1).2.2)).2).2).2).2).2).2).1=(unB b).data∧(((((((((((Prod.snd x'8).1).2.2)).2).2).2).2).2).2).2).1=(unB b).why∧((((((((((((Prod.snd x'8).1).2.2)).2).2).2).2).2).2).2).2).1=(unB b).of∧(List.getD ((((Prod.fst x'8).2.2)).1) 0 0==(1:UInt8))=(unB b).me∧y4.1=x5.1∧y4.2.1=x5.2.1∧0=0∧gN ((((Prod.fst x'8).2.2)).1)=List.length ((unB b).gaps)∧y4.2.2=x5.2.2∧decide (gN ((((Prod.fst x'8).2.2)).1)=0)=decide
      (List.length ((unB b).gaps)=0))∧(0:Int)=0)∧((y4.1=x5.1∧y4.2.1=x5.2.1∧decide (gN ((((Prod.fst x'8).2.2)).1)=0)=decide (List.length ((unB b).gaps)=0)∧List.length ((unB b).gaps)≤gN ((((Prod.fst x'8).2.2)).1)∧List.length ((unB b).gaps)≤x5.2.2∧x5.2.2≤y4.2.2)∧∀ (i1:Nat), i1 < List.length ((unB b).gaps)→(List.getD (List.take (gN ((((Prod.fst x'8).2.2)).1)) (decG (List.drop 1 ((((Prod.fst x'8).2.2)).1))))
      i1 ((0:Int), (0:Int))).1=(List.getD ((unB b).gaps) i1 ((0:Int), (0:Int))).1∧(List.getD (List.take (gN ((((Prod.fst x'8).2.2)).1)) (decG (List.drop 1 ((((Prod.fst x'8).2.2)).1)))) i1 ((0:Int), (0:Int))).2=(List.getD ((unB b).gaps) i1 ((0:Int), (0:Int))).2)∧List.length ((unB b).gaps)≤x5.2.2∧x5.2.2≤9223372036854775807∧(List.length ((unB b).gaps)=0→x5.2.2=0)))∧True)∧(v4=(6:Int)→(0:Int)≤6∧6 <
      (↑(7:Nat):Int)∧(((Prod.fst x'3).1=b5∧((Prod.fst x'3).2.1)=0)∧∀ (x'9:(Nat × Nat × List UInt8 × Unit) × Int × Unit), x'9=((b5, 0, List.drop (Int.toNat ((Prod.snd x'3).1)) ((((Prod.fst x'3).2.2)).1), ()), (1:Int), ())→((0:Int)≤(Prod.snd x'9).1∧(Prod.snd x'9).1≤(7:Int))∧(Prod.snd x'9).1≤(↑(List.length ((((Prod.fst x'9).2.2)).1)):Int)∧∀ (y4:Unit), True→∀ (v6:Int), v6=(↑(numL (List.take (Int.toNat
      ((Prod.snd x'9).1)) ((((Prod.fst x'9).2.2)).1))):Int)→(b1=b1∧0=0)∧((Prod.fst x'9).1=b5∧((Prod.fst x'9).2.1)=0)∧((!List.drop (Int.toNat ((Prod.snd x'9).1)) ((((Prod.fst x'9).2.2)).1)==[])=false→b1=b1∧0=0)∧((!List.drop (Int.toNat ((Prod.snd x'9).1)) ((((Prod.fst x'9).2.2)).1)==[])=false→true=true)∧((!List.drop (Int.toNat ((Prod.snd x'9).1)) ((((Prod.fst x'9).2.2)).1)==[])=false→0≤8796093022208)∧∀
      (t3:Bool), t3=decide (okU (uOf (v4, v5, [], (0:Int), (0:Int), (0:Int), [], (0:Int), v6, false, Eng.RowD.mk 0 0 0 0 true fun (x:Nat) ↦ ((0:Int), (0:Int), ()), ())))→∀ (t4:Bool), (t4=if (!List.drop (Int.toNat ((Prod.snd x'9).1)) ((((Prod.fst x'9).2.2)).1)==[])=true then true else !t3)→(t4=true→(b1=b1∧0=0)∧(b2=b2∧0=0)∧(b1=b1∧0=0)∧(b2=b2∧0=0)∧∃ (x4:Nat × Nat × Nat), (((0:Int)=(unB b).kind∧(0:Int)=(unB
      b).number∧[]=(unB b).name∧(0:Int)=(unB b).size∧(0:Int)=(unB b).sum∧(0:Int)=(unB b).offset∧[]=(unB b).data∧(0:Int)=(unB b).why∧(0:Int)=(unB b).of∧false=(unB b).me∧SVeq (SV.slice 999999 0 0 [] 0 0 0 0 true) (SV.slice 0 x4.1 x4.2.1 [] 2 0 (List.length ((unB b).gaps)) x4.2.2 (decide (List.length ((unB b).gaps)=0))))∧(6:Int)=0)∧(decide (List.length ((unB b).gaps)=0)=true∧List.length ((unB
      b).gaps)=0∧x4.2.2=0)∧List.length ((unB b).gaps)≤x4.2.2∧x4.2.2≤9223372036854775807∧(List.length ((unB b).gaps)=0→x4.2.2=0))∧(t4=false→(b1=b1∧0=0)∧(b1=b1∧0=0)∧(b2=b2∧0=0)∧(b1=b1∧0=0)∧(b2=b2∧0=0)∧∃ (x5:Nat × Nat × Nat), ((v4=(unB b).kind∧v5=(unB b).number∧[]=(unB b).name∧(0:Int)=(unB b).size∧(0:Int)=(unB b).sum∧(0:Int)=(unB b).offset∧[]=(unB b).data∧(0:Int)=(unB b).why∧v6=(unB b).of∧false=(unB
      b).me∧SVeq (SV.slice 999999 0 0 [] 0 0 0 0 true) (SV.slice 0 x5.1 x5.2.1 [] 2 0 (List.length ((unB b).gaps)) x5.2.2 (decide (List.length ((unB b).gaps)=0))))∧(0:Int)=0)∧(decide (List.length ((unB b).gaps)=0)=true∧List.length ((unB b).gaps)=0∧x5.2.2=0)∧List.length ((unB b).gaps)≤x5.2.2∧x5.2.2≤9223372036854775807∧(List.length ((unB b).gaps)=0→x5.2.2=0)))∧True)∧True)∧True)))) (by kernel_rfl) ?_
  try simp only [eq_self, true_and, and_true, Nat.le_refl, implies_true, forall_const, Bool.false_eq_true, Bool.true_eq_false, reduceCtorEq, false_imp_iff, true_imp_iff, Int.toNat_zero, Int.toNat_natCast, Nat.zero_lt_one, Int.le_refl, allGet]
  obtain ⟨⟨hu0, q0, q1⟩, hb0⟩ := unB_ok hp.1
  have hb : b = putU (unB b) := hb0
  have hu : okU (unB b) := hu0
  have sm0 : 0 ≤ (unB b).sum := q0
  have sm1 : (unB b).sum ≤ 4294967295 := q1
  clear hu0 q0 q1 hb0
  generalize unB b = u at hu hb sm0 sm1 ⊢
  have hu' := hu
  have hput : putU u = sealL (headU u) := if_pos hu
  rw [hput] at hb
  have hlen := headU_len hu
  have hbl : b.length = (headU u).length + 2 := by rw [hb, sealL_len]
  obtain ⟨⟨nr0, nr1⟩, hfit, honly⟩ := hu
  have hk : u.kind = 1 ∨ u.kind = 2 ∨ u.kind = 3 ∨ u.kind = 4 ∨ u.kind = 5 ∨ u.kind = 6 := by
    by_cases k1 : u.kind = 1; exact .inl k1
    by_cases k2 : u.kind = 2; exact .inr (.inl k2)
    by_cases k3 : u.kind = 3; exact .inr (.inr (.inl k3))
    by_cases k4 : u.kind = 4; exact .inr (.inr (.inr (.inl k4)))
    by_cases k5 : u.kind = 5; exact .inr (.inr (.inr (.inr (.inl k5))))
    by_cases k6 : u.kind = 6; exact .inr (.inr (.inr (.inr (.inr k6))))
    simp [fitU, k1, k2, k3, k4, k5, k6] at hfit
  have hh : headU u = byI u.kind 1 ++ (byI u.number 2 ++ bodyU u) := rfl
  have hl1 : (headU u).length = 3 + (bodyU u).length := by rw [hh]; simp only [List.length_append, byI_len]; omega
  have hbody : 1 ≤ (bodyU u).length := bodyU_pos ⟨⟨nr0, nr1⟩, hfit, honly⟩
  intro b1 v1 e1 t1 f1
  have f1 : t1 = true := by rw [f1, e1, hbl]; exact decide_eq_true ⟨by omega, by omega⟩
  subst f1
  refine ⟨fun q => (by cases q), fun _ v2 e2 v3 e3 => ?_⟩
  have e3 : v3 = (headU u).length := by rw [e3, e2, hbl, w64_id (by omega) (by omega)]; omega
  subst e3
  have htk : List.drop 0 (List.take (((headU u).length : Nat) : Int).toNat b) = headU u := by
    show b.take (headU u).length = headU u
    rw [hb, sealL, List.take_left]
  rw [htk]
  refine ⟨by omega, by omega, by omega, fun b2 b3 g1 g2 => ?_⟩
  rintro x rfl
  refine ⟨by dsimp only; omega, Nat.le_refl _, Nat.le_refl _, fun q => q, fun s1 h1 => ?_⟩
  have h1 : s1 = b := by
    rw [h1, hb]
    dsimp only
    rw [byt_rowG]
  subst h1
  refine ⟨fun q => (by simp at q), fun _ => ⟨by omega, by omega, by omega, fun b5 => ?_⟩⟩
  rintro x rfl
  have rd := fun (n : Int) (m : Nat) (r : List UInt8) (h0 : 0 ≤ n) (h1 : n < ((256 ^ m : Nat) : Int)) => rd_num (n := n) (m := m) (r := r) h0 h1
  have t1' : Int.toNat 1 = 1 := rfl
  have t2 : Int.toNat 2 = 2 := rfl
  have t4' : Int.toNat 4 = 4 := rfl
  refine ⟨⟨by dsimp only; omega, by dsimp only; omega⟩, by dsimp only; omega, fun v4 e4 => ⟨⟨rfl, rfl⟩, ?_⟩⟩
  have e4 : v4 = u.kind := by rw [e4, hh]; exact rd _ 1 _ (by omega) (by show u.kind < 256; omega)
  have hd1 : List.drop (Int.toNat 1) (headU u) = byI u.number 2 ++ bodyU u := by rw [hh, t1']; exact rd_drop _ _ _
  rintro x rfl
  dsimp only
  rw [hd1]
  refine ⟨⟨by omega, by omega⟩, by simp only [List.length_append, byI_len]; omega, fun v5 e5 t2 f2 => ?_⟩
  have e5 : v5 = u.number := by rw [e5]; exact rd _ 2 _ nr0 (by show u.number < 65536; omega)
  have hd2 : List.drop (Int.toNat 2) (byI u.number 2 ++ bodyU u) = bodyU u := rd_drop _ _ _
  rw [hd2]
  subst e4 e5
  have f2 : t2 = true := by rw [f2]; exact decide_eq_true ⟨by omega, by omega⟩
  subst f2
  refine ⟨fun q => (by cases q), fun _ => ⟨hk, fun hk => ⟨by decide, by decide, ⟨rfl, rfl⟩, ?_⟩, fun hk => ⟨by decide, by decide, ⟨rfl, rfl⟩, ?_⟩, fun hk => ⟨by decide, by decide, ⟨rfl, rfl⟩, ?_⟩, fun hk => ⟨by decide, by decide, ⟨rfl, rfl⟩, ?_⟩, fun hk => ⟨by decide, by decide, ⟨rfl, rfl⟩, ?_⟩, fun hk => ⟨by decide, by decide, ⟨rfl, rfl⟩, ?_⟩⟩⟩
  · have hby : bodyU u = byI u.size 2 ++ u.name := by simp [bodyU, hk]
    rw [hby]
    have k_sum : 0 = u.sum := by rw [← honly]; simp [only, hk]
    have k_offset : 0 = u.offset := by rw [← honly]; simp [only, hk]
    have k_data : [] = u.data := by rw [← honly]; simp [only, hk]
    have k_why : 0 = u.why := by rw [← honly]; simp [only, hk]
    have k_of : 0 = u.of := by rw [← honly]; simp [only, hk]
    have k_me : false = u.me := by rw [← honly]; simp [only, hk]
    have k_gaps : [] = u.gaps := by rw [← honly]; simp [only, hk]
    obtain ⟨z0, z1⟩ := (by simpa [fitU, hk] using hfit : inR u.name.length 1 32 ∧ inR u.size 0 65535)
    obtain ⟨z2, z3⟩ := z1
    rintro x rfl
    refine ⟨⟨by dsimp only; omega, by dsimp only; omega⟩, by dsimp only; simp only [List.length_append, byI_len]; omega, fun v6 e6 => ⟨⟨rfl, rfl⟩, ?_⟩⟩
    have e6 : v6 = u.size := by rw [e6]; exact rd _ 2 _ z2 (by show u.size < 65536; omega)
    rintro x rfl
    dsimp only
    rw [show List.drop (Int.toNat 2) (byI u.size 2 ++ u.name) = u.name from rd_drop _ _ _]
    obtain ⟨n0, n1⟩ := z0
    refine ⟨by omega, fun s2 f2 => ⟨⟨rfl, rfl⟩, fun _ => by decide, fun t3 f3 t4 f4 => ?_⟩⟩
    subst e6 f2
    have hue : uOf (u.kind, u.number, u.name, u.size, 0, 0, [], 0, 0, false, ⟨0, 0, 0, 0, true, fun x => (0, 0, ())⟩, ()) = u := by
      rw [← honly]; simp [only, hk, uOf, gapsOf]
    have f4 : t4 = false := by rw [f4, f3, hue, decide_eq_true hu']; rfl
    subst f4
    exact ⟨fun q => (by cases q), fun _ => ⟨(0, 0, 0), ⟨rfl, rfl, rfl, rfl, k_sum, k_offset, k_data, k_why, k_of, k_me, nil_eqv (by rw [← k_gaps]; rfl) (by rw [← k_gaps]; rfl) rfl⟩, ⟨by rw [← k_gaps]; rfl, by rw [← k_gaps]; rfl, rfl⟩, by rw [← k_gaps]; exact Nat.le_refl _, by dsimp only; omega, fun _ => rfl⟩⟩
  · have hby : bodyU u = byI u.offset 2 ++ u.data := by simp [bodyU, hk]
    rw [hby]
    have k_name : [] = u.name := by rw [← honly]; simp [only, hk]
    have k_size : 0 = u.size := by rw [← honly]; simp [only, hk]
    have k_sum : 0 = u.sum := by rw [← honly]; simp [only, hk]
    have k_why : 0 = u.why := by rw [← honly]; simp [only, hk]
    have k_of : 0 = u.of := by rw [← honly]; simp [only, hk]
    have k_me : false = u.me := by rw [← honly]; simp [only, hk]
    have k_gaps : [] = u.gaps := by rw [← honly]; simp [only, hk]
    obtain ⟨z0, z1⟩ := (by simpa [fitU, hk] using hfit : inR u.data.length 1 160 ∧ inR u.offset 0 (65535 - u.data.length))
    obtain ⟨z2, z3⟩ := z1
    rintro x rfl
    refine ⟨⟨by dsimp only; omega, by dsimp only; omega⟩, by dsimp only; simp only [List.length_append, byI_len]; omega, fun v6 e6 => ⟨⟨rfl, rfl⟩, ?_⟩⟩
    have e6 : v6 = u.offset := by rw [e6]; exact rd _ 2 _ z2 (by show u.offset < 65536; omega)
    rintro x rfl
    dsimp only
    rw [show List.drop (Int.toNat 2) (byI u.offset 2 ++ u.data) = u.data from rd_drop _ _ _]
    obtain ⟨n0, n1⟩ := z0
    refine ⟨by omega, fun s2 f2 => ⟨⟨rfl, rfl⟩, fun _ => by decide, fun t3 f3 t4 f4 => ?_⟩⟩
    subst e6 f2
    have hue : uOf (u.kind, u.number, [], 0, 0, u.offset, u.data, 0, 0, false, ⟨0, 0, 0, 0, true, fun x => (0, 0, ())⟩, ()) = u := by
      rw [← honly]; simp [only, hk, uOf, gapsOf]
    have f4 : t4 = false := by rw [f4, f3, hue, decide_eq_true hu']; rfl
    subst f4
    exact ⟨fun q => (by cases q), fun _ => ⟨(0, 0, 0), ⟨rfl, rfl, k_name, k_size, k_sum, rfl, rfl, k_why, k_of, k_me, nil_eqv (by rw [← k_gaps]; rfl) (by rw [← k_gaps]; rfl) rfl⟩, ⟨by rw [← k_gaps]; rfl, by rw [← k_gaps]; rfl, rfl⟩, by rw [← k_gaps]; exact Nat.le_refl _, by dsimp only; omega, fun _ => rfl⟩⟩
  · have hby : bodyU u = byI u.why 1 ++ (byI u.size 2 ++ (byI u.sum 4 ++ [])) := by simp [bodyU, hk]
    rw [hby]
    have k_name : [] = u.name := by rw [← honly]; simp [only, hk]
    have k_offset : 0 = u.offset := by rw [← honly]; simp [only, hk]
    have k_data : [] = u.data := by rw [← honly]; simp [only, hk]
    have k_of : 0 = u.of := by rw [← honly]; simp [only, hk]
    have k_me : false = u.me := by rw [← honly]; simp [only, hk]
    have k_gaps : [] = u.gaps := by rw [← honly]; simp [only, hk]
    obtain ⟨z0, z1⟩ := (by simpa [fitU, hk] using hfit : inR u.why 0 1 ∧ inR u.size 0 65535)
    obtain ⟨z2, z3⟩ := z1
    obtain ⟨w0, w1⟩ := z0
    rintro x rfl
    refine ⟨⟨by dsimp only; omega, by dsimp only; omega⟩, by dsimp only; simp only [List.length_append, byI_len]; omega, fun v6 e6 => ⟨⟨rfl, rfl⟩, ?_⟩⟩
    have e6 : v6 = u.why := by rw [e6]; exact rd _ 1 _ w0 (by show u.why < 256; omega)
    rintro x rfl
    dsimp only
    rw [show List.drop (Int.toNat 1) (byI u.why 1 ++ (byI u.size 2 ++ (byI u.sum 4 ++ []))) = byI u.size 2 ++ (byI u.sum 4 ++ []) from rd_drop _ _ _]
    refine ⟨⟨by omega, by omega⟩, by simp only [List.length_append, byI_len]; omega, fun v7 e7 => ⟨⟨rfl, rfl⟩, ?_⟩⟩
    have e7 : v7 = u.size := by rw [e7]; exact rd _ 2 _ z2 (by show u.size < 65536; omega)
    rintro x rfl
    dsimp only
    rw [show List.drop (Int.toNat 2) (byI u.size 2 ++ (byI u.sum 4 ++ [])) = byI u.sum 4 ++ [] from rd_drop _ _ _]
    refine ⟨⟨by omega, by omega⟩, by simp only [List.length_append, byI_len]; omega, fun v8 e8 v9 e9 => ?_⟩
    have e8 : v8 = u.sum := by rw [e8]; exact rd _ 4 _ sm0 (by show u.sum < 4294967296; omega)
    have e9 : v9 = u.sum := by rw [e9, e8]; exact u32_id sm0 (by omega)
    rw [show List.drop (Int.toNat 4) (byI u.sum 4 ++ []) = [] from rd_drop _ _ _]
    refine ⟨⟨rfl, rfl⟩, fun _ => by decide, fun t3 f3 t4 f4 => ?_⟩
    subst e6 e7 e9
    have hue : uOf (u.kind, u.number, [], u.size, u.sum, 0, [], u.why, 0, false, ⟨0, 0, 0, 0, true, fun x => (0, 0, ())⟩, ()) = u := by
      rw [← honly]; simp [only, hk, uOf, gapsOf]
    have f4 : t4 = false := by rw [f4, f3, hue, decide_eq_true hu']; rfl
    subst f4
    exact ⟨fun q => (by cases q), fun _ => ⟨(0, 0, 0), ⟨rfl, rfl, k_name, rfl, rfl, k_offset, k_data, rfl, k_of, k_me, nil_eqv (by rw [← k_gaps]; rfl) (by rw [← k_gaps]; rfl) rfl⟩, ⟨by rw [← k_gaps]; rfl, by rw [← k_gaps]; rfl, rfl⟩, by rw [← k_gaps]; exact Nat.le_refl _, by dsimp only; omega, fun _ => rfl⟩⟩
  · have hby : bodyU u = byI u.why 1 ++ [] := by simp [bodyU, hk]
    rw [hby]
    have k_name : [] = u.name := by rw [← honly]; simp [only, hk]
    have k_size : 0 = u.size := by rw [← honly]; simp [only, hk]
    have k_sum : 0 = u.sum := by rw [← honly]; simp [only, hk]
    have k_offset : 0 = u.offset := by rw [← honly]; simp [only, hk]
    have k_data : [] = u.data := by rw [← honly]; simp [only, hk]
    have k_of : 0 = u.of := by rw [← honly]; simp [only, hk]
    have k_me : false = u.me := by rw [← honly]; simp [only, hk]
    have k_gaps : [] = u.gaps := by rw [← honly]; simp [only, hk]
    obtain ⟨w0, w1⟩ := (by simpa [fitU, hk] using hfit : inR u.why 0 4)
    rintro x rfl
    refine ⟨⟨by dsimp only; omega, by dsimp only; omega⟩, by dsimp only; simp only [List.length_append, byI_len]; omega, fun v6 e6 => ?_⟩
    have e6 : v6 = u.why := by rw [e6]; exact rd _ 1 _ w0 (by show u.why < 256; omega)
    dsimp only
    rw [show List.drop (Int.toNat 1) (byI u.why 1 ++ []) = [] from rd_drop _ _ _]
    refine ⟨⟨rfl, rfl⟩, fun _ => by decide, fun t3 f3 t4 f4 => ?_⟩
    subst e6
    have hue : uOf (u.kind, u.number, [], 0, 0, 0, [], u.why, 0, false, ⟨0, 0, 0, 0, true, fun x => (0, 0, ())⟩, ()) = u := by
      rw [← honly]; simp [only, hk, uOf, gapsOf]
    have f4 : t4 = false := by rw [f4, f3, hue, decide_eq_true hu']; rfl
    subst f4
    exact ⟨fun q => (by cases q), fun _ => ⟨(0, 0, 0), ⟨rfl, rfl, k_name, k_size, k_sum, k_offset, k_data, rfl, k_of, k_me, nil_eqv (by rw [← k_gaps]; rfl) (by rw [← k_gaps]; rfl) rfl⟩, ⟨by rw [← k_gaps]; rfl, by rw [← k_gaps]; rfl, rfl⟩, by rw [← k_gaps]; exact Nat.le_refl _, by dsimp only; omega, fun _ => rfl⟩⟩
  · have hby : bodyU u = pgL u.me u.gaps := by simp [bodyU, hk, pgL]
    rw [hby]
    have k_name : [] = u.name := by rw [← honly]; simp [only, hk]
    have k_size : 0 = u.size := by rw [← honly]; simp [only, hk]
    have k_sum : 0 = u.sum := by rw [← honly]; simp [only, hk]
    have k_offset : 0 = u.offset := by rw [← honly]; simp [only, hk]
    have k_data : [] = u.data := by rw [← honly]; simp [only, hk]
    have k_why : 0 = u.why := by rw [← honly]; simp [only, hk]
    have k_of : 0 = u.of := by rw [← honly]; simp [only, hk]
    obtain ⟨hg, hgl, _⟩ := (by simpa [fitU, hk] using hfit : gapsOk (-1) u.gaps ∧ u.gaps.length ≤ 20 ∧ (u.me = true ∨ 0 < u.gaps.length))
    have hl : (pgL u.me u.gaps).length = 1 + 4 * u.gaps.length := pgL_len _ _
    have hgN : gN (pgL u.me u.gaps) = u.gaps.length := by unfold gN; omega
    have hd0 : (pgL u.me u.gaps).getD 0 0 = if u.me then 1 else 0 := by cases u.me <;> rfl
    have hdr : List.drop 1 (pgL u.me u.gaps) = gapsL u.gaps := rd_drop _ 1 _
    have hdd : List.drop (1 + 4 * u.gaps.length) (pgL u.me u.gaps) = [] := List.drop_of_length_le (by omega)
    have hdec : decG (gapsL u.gaps) = u.gaps := decG_gapsL _ fun g hgm => by
      have := gaps_in _ _ hg (by decide) g hgm
      omega
    rintro x rfl
    dsimp only
    rw [hgN, hd0, hdr, hdd, hdec]
    have htk : List.take u.gaps.length u.gaps = u.gaps := List.take_of_length_le (Nat.le_refl _)
    rw [htk]
    refine ⟨by omega, by omega, by cases u.me <;> decide, fun y hy => ⟨⟨rfl, rfl⟩, fun _ => ⟨rfl, rfl⟩, fun _ => by omega, fun t3 f3 t4 f4 => ?_⟩⟩
    have hme : ((if u.me = true then (1 : UInt8) else 0) == 1) = u.me := by cases u.me <;> rfl
    have hgo : ∀ z : Bool, gapsOf ⟨y.1, y.2.1, u.gaps.length, y.2.2, z, fun k => ((u.gaps.getD k (0, 0)).1, (u.gaps.getD k (0, 0)).2, ())⟩ = u.gaps := fun z => by
      apply List.ext_getElem
      · simp [gapsOf]
      · intro i h1 h2
        simp [gapsOf, List.getD_eq_getElem?_getD, List.getElem?_eq_getElem h2]
    have hue : uOf (u.kind, u.number, [], 0, 0, 0, [], 0, 0, (if u.me = true then (1 : UInt8) else 0) == 1, ⟨y.1, y.2.1, u.gaps.length, y.2.2, decide (u.gaps.length = 0), fun k => ((u.gaps.getD k (0, 0)).1, (u.gaps.getD k (0, 0)).2, ())⟩, ()) = u := by
      show (⟨u.kind, u.number, [], 0, 0, 0, [], 0, 0, (if u.me = true then (1 : UInt8) else 0) == 1, gapsOf ⟨y.1, y.2.1, u.gaps.length, y.2.2, decide (u.gaps.length = 0), fun k => ((u.gaps.getD k (0, 0)).1, (u.gaps.getD k (0, 0)).2, ())⟩⟩ : U) = u
      rw [hgo, hme]
      conv => rhs; rw [← honly]
      simp [only, hk]
    have f4 : t4 = false := by rw [f4, f3, hue, decide_eq_true hu']; rfl
    subst f4
    exact ⟨fun q => (by cases q), fun _ => ⟨⟨rfl, rfl⟩, ⟨rfl, rfl⟩, ⟨rfl, rfl⟩, y, ⟨rfl, rfl, k_name, k_size, k_sum, k_offset, k_data, k_why, k_of, hme, rfl, rfl, rfl, rfl, rfl⟩, ⟨⟨rfl, rfl, rfl, Nat.le_refl _, hy.1, Nat.le_refl _⟩, fun _ _ => ⟨rfl, rfl⟩⟩, hy.1, hy.2.1, hy.2.2⟩⟩
  · have hby : bodyU u = byI u.of 1 ++ [] := by simp [bodyU, hk]
    rw [hby]
    have k_name : [] = u.name := by rw [← honly]; simp [only, hk]
    have k_size : 0 = u.size := by rw [← honly]; simp [only, hk]
    have k_sum : 0 = u.sum := by rw [← honly]; simp [only, hk]
    have k_offset : 0 = u.offset := by rw [← honly]; simp [only, hk]
    have k_data : [] = u.data := by rw [← honly]; simp [only, hk]
    have k_why : 0 = u.why := by rw [← honly]; simp [only, hk]
    have k_me : false = u.me := by rw [← honly]; simp [only, hk]
    have k_gaps : [] = u.gaps := by rw [← honly]; simp [only, hk]
    have hf := (by simpa [fitU, hk] using hfit : u.of = 3 ∨ u.of = 4)
    have w0 : 0 ≤ u.of := by omega
    rintro x rfl
    refine ⟨⟨by dsimp only; omega, by dsimp only; omega⟩, by dsimp only; simp only [List.length_append, byI_len]; omega, fun v6 e6 => ?_⟩
    have e6 : v6 = u.of := by rw [e6]; exact rd _ 1 _ w0 (by show u.of < 256; omega)
    dsimp only
    rw [show List.drop (Int.toNat 1) (byI u.of 1 ++ []) = [] from rd_drop _ _ _]
    refine ⟨⟨rfl, rfl⟩, fun _ => by decide, fun t3 f3 t4 f4 => ?_⟩
    subst e6
    have hue : uOf (u.kind, u.number, [], 0, 0, 0, [], 0, u.of, false, ⟨0, 0, 0, 0, true, fun x => (0, 0, ())⟩, ()) = u := by
      rw [← honly]; simp [only, hk, uOf, gapsOf]
    have f4 : t4 = false := by rw [f4, f3, hue, decide_eq_true hu']; rfl
    subst f4
    exact ⟨fun q => (by cases q), fun _ => ⟨(0, 0, 0), ⟨rfl, rfl, k_name, k_size, k_sum, k_offset, k_data, k_why, rfl, k_me, nil_eqv (by rw [← k_gaps]; rfl) (by rw [← k_gaps]; rfl) rfl⟩, ⟨by rw [← k_gaps]; rfl, by rw [← k_gaps]; rfl, rfl⟩, by rw [← k_gaps]; exact Nat.le_refl _, by dsimp only; omega, fun _ => rfl⟩⟩
end Rc
