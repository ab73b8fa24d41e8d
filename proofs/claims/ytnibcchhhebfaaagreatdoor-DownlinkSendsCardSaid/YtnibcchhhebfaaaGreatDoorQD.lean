/-
  OWN WORK. A block of two bytes without errors: unwrapped.
-/
import Derived.Test.YtnibcchhhebfaaaGreatDoorQA
import Derived.Test.YtnibcchhhebfaaaGreatDoorQ7
import Derived.Test.YtnibcchhhebfaaaGreatDoorEngQ
import Derived.Test.YtnibcchhhebfaaaGreatDoorQX
import Derived.Test.YtnibcchhhebfaaaGreatDoorQS
namespace Vt
open Go Go.Proofs Eng
set_option linter.unusedVariables false
set_option linter.unusedSimpArgs false
set_option maxHeartbeats 8000000
set_option maxRecDepth 100000
def eqIf : SV → SV → Option Bool
  | .iface _ _, .val .nilIface => some false
  | .val .nilIface, .val .nilIface => some true
  | _, _ => none
theorem equalIn_in {P : Program} {w : World} {t : TypeId} (ht : P.underlying t = some (.interface #[])) (d : Nat) (k : TypeId) (z : Value) : (Op.equalIn (d + 1) t (.iface k z) .nilIface).run P w = .ok false w := by
  simp [Op.equalIn, run_underlying ht]
theorem equalIn_nn {P : Program} {w : World} {t : TypeId} (ht : P.underlying t = some (.interface #[])) (d : Nat) : (Op.equalIn (d + 1) t .nilIface .nilIface).run P w = .ok true w := by
  simp [Op.equalIn, run_underlying ht]
theorem guardIn_nn {P : Program} {w : World} {t : TypeId} (ht : P.underlying t = some (.interface #[])) (d : Nat) : (Op.eqGuardIn (d + 1) t .nilIface .nilIface).run P w = .ok false w := by
  simp [Op.eqGuardIn, run_underlying ht]
theorem eqIf_ok {P : Program} {t : TypeId} (ht : P.underlying t = some (.interface #[])) : EqOk P t eqIf := by
  intro x y b h hx hy w u v
  have fin : ∀ (a c : Value), ((Op.equalIn 10000 t a c).run P w = .ok b w) → (∀ op, (eqGuard op t u v a c).run P w = .ok () w) → (binOp .eql t a c = (do pure (.bool (← Op.equal t a c)))) → (binOp .neq t a c = (do pure (.bool (!(← Op.equal t a c))))) →
      (do eqGuard .eql t u v a c; binOp .eql t a c : Sem Value).run P w = .ok (.bool b) w ∧ (do eqGuard .neq t u v a c; binOp .neq t a c : Sem Value).run P w = .ok (.bool (!b)) w := fun a c h1 h2 h3 h4 => by
    have h5 : (Op.equal t a c).run P w = .ok b w := h1
    refine ⟨?_, ?_⟩
    · rw [Sem.run_bind, h2, Result.andThen_ok, h3, Sem.run_bind, h5]
      simp
    · rw [Sem.run_bind, h2, Result.andThen_ok, h4, Sem.run_bind, h5]
      simp
  unfold eqIf at h
  split at h
  · rename_i d z
    injection h with h
    subst h
    refine fin _ _ (equalIn_in ht 9999 d z.den) (fun op => ?_) rfl rfl
    cases op <;> rfl
  · injection h with h
    subst h
    refine fin _ _ (equalIn_nn ht 9999) (fun op => ?_) rfl rfl
    have hin : (Op.eqGuardIn Op.maxDepth t .nilIface .nilIface).run P w = .ok false w := guardIn_nn ht 9999
    cases op <;> first
      | rfl
      | (cases u <;> cases v <;> simp [eqGuard, SV.den, hin])
  · cases h
/-- A slice without elements. -/
def empA : Arg (Nat × Nat × Nat × Bool) where
  get := fun v _ => match v with
    | .slice g b off p wd i n c z => some (.p (n = 0) :: [], (b, off + (pathOff p + i * wd), c, z))
    | _ => none
  sv := fun _ x => .slice 999999 x.1 x.2.1 [] 0 0 0 x.2.2.1 x.2.2.2
  hp := fun _ _ => []
  om := fun _ _ _ => []
  rt := fun _ _ => []
  tags := 0
  tg := fun t _ => .nil t 0
  ok := by
    intro v H ps x h hp hw _ t
    split at h
    · rename_i g b off p wd i n c z
      simp only [Option.some.injEq, Prod.mk.injEq] at h
      obtain ⟨rfl, rfl⟩ := h
      have hn : n = 0 := hp.1
      subst hn
      exact ⟨⟨by simp [SV.den, pathOff], by simp [SV.flat, pathOff], hw, rfl⟩, fun _ h => by cases h⟩
    · cases h
instance : Arg.RO empA := ⟨fun _ _ _ h => by cases h⟩
abbrev aEmp : ArgL ((Nat × Nat × Nat × Bool) × Unit) := .cons empA .nil
/-- No bytes. -/
def nil1 : SV := .slice 999999 0 0 [] 1 0 0 0 true
def sol0 := ecC aEmp (fun _ => []) (fun _ (_ : Unit) => True) (fun _ _ => .tup [nil1, .bool true]) (fun _ _ => []) 0
def ESV : Env := (E0.inl 184 Tryz.f184 fun _ _ => .unroll 4 1 :: .unroll 15 1 :: .unroll 22 1 :: .det 0 :: rds 60).addQ 20 eqIf
theorem ESV_ok : EnvOk Tryz.prog ESV := (E0_ok.inl _ Tryz.func184 rfl (by kernel_rfl)).addQ (eqIf_ok (by kernel_rfl))
theorem sol0_ok : EcOk Tryz.prog 152 sol0 := by
  refine ecC_runD (f0 := 183) (fun _ => ESV_ok) Tryz.func152 rfl (by kernel_rfl) Tryz.func183 rfl (by kernel_rfl) [] (fun x => []) (fun x => []) (fun _ => Nat.le_of_ble_eq_true rfl) (fun ⟨⟨b, off, c, z⟩, u⟩ hp hw => ?_)
  refine vc_of (q :=
      ∀ (b1 b2:Nat), (b1=b1∧0=0)∧(b2=b2∧0=0)∧(true=true→(b1=b1∧0=0)∧(b2=b2∧0=0)∧∃ (x1:Unit), (SVeq (SV.slice 999999 0 0 [] 0 0 0 0 true) (SV.slice 999999 0 0 [] 1 0 0 0 true)∧true=true)∧True)∧(true=false→(false=true→∀ (b3:Nat), (b3=b3∧0=0)∧(b1=b1∧0=0)∧(b2=b2∧0=0)∧(b1=b1∧0=0)∧(b2=b2∧0=0)∧∃ (x2:Unit), (SVeq (SV.slice 999999 0 0 [] 0 0 0 0 true) (SV.slice 999999 0 0 [] 1 0 0 0
      true)∧false=true)∧True)∧(false=false→False))) (by kernel_rfl) ?_
  try simp only [eq_self, true_and, and_true, Nat.le_refl, implies_true, forall_const, Bool.false_eq_true, Bool.true_eq_false, reduceCtorEq, false_imp_iff, true_imp_iff, Int.toNat_zero, Int.toNat_natCast, Nat.zero_lt_one, Int.le_refl, allGet]
  first | exact ⟨(), trivial⟩ | exact ⟨(), nil_eqv rfl rfl rfl⟩
/-! ### wrong -/
theorem pow_bd (z : Int) : 0 ≤ Galois.powI 2 z ∧ Galois.powI 2 z ≤ 255 := by
  unfold Galois.powI
  rw [if_neg (by decide)]
  have := Galois.gpow_lt 2 (Galois.expI z)
  show 0 ≤ ((Galois.gpow 2 (Galois.expI z) : Nat) : Int) ∧ ((Galois.gpow 2 (Galois.expI z) : Nat) : Int) ≤ 255
  omega
theorem eval_one (x : Nat) : Galois.evalF [1] x = 1 := by
  unfold Galois.evalF
  show Nat.xor 0 (Galois.gmul (Galois.co [1] 0) (Galois.gpow x 0)) = 1
  have : Galois.gpow x 0 = 1 := rfl
  rw [this]
  decide +kernel
abbrev aCt0 : ArgL ((Nat × Nat × Nat × Bool) × Int × Unit) := .cons empA (.cons (.elt (.int .i64)) .nil)
def cont0 := pcOf aCt0 (fun _ => []) (fun _ => .bool false)
def ECT : Env := E0.inl 127 Tryz.f127 fun _ _ => .unroll 2 1 :: .det 0 :: rds 8
theorem ECT_ok : EnvOk Tryz.prog ECT := E0_ok.inl _ Tryz.func127 rfl (by kernel_rfl)
theorem cont0_ok : PcOk Tryz.prog 91 cont0 := by
  refine pcOf_run (fun _ => ECT_ok) Tryz.func91 rfl (by kernel_rfl) (fun x => trivial)
    (fun x => rds 8) (fun _ => Nat.le_of_ble_eq_true rfl) (fun ⟨⟨b, off, c, z⟩, e, u⟩ hp hw => ?_)
  refine vc_of (q :=
      decide ((-1:Int)≥(0:Int))=false) (by kernel_rfl) ?_
  try simp only [eq_self, true_and, and_true, Nat.le_refl, implies_true, forall_const, Bool.false_eq_true, Bool.true_eq_false, reduceCtorEq, false_imp_iff, true_imp_iff, Int.toNat_zero, Int.toNat_natCast, Nat.zero_lt_one, Int.le_refl, allGet]
  decide
def EWR : Env := (((((E0.addP 153 Galois.eval).addP 113 Galois.back).addP 145 Galois.power).addE 152 sol0).addP 91 cont0).inl 182 Tryz.f182 fun _ _ => [.draw 1 (.take 0 (.take 1 (.take 2 (.take 3 (.take 4 .fin))))) []]
theorem EWR_ok : EnvOk Tryz.prog EWR := (((((E0_ok.addP Galois.eval_ok).addP Galois.back_ok).addP Galois.power_ok).addE sol0_ok).addP cont0_ok).inl _ Tryz.func182 rfl (by kernel_rfl)
def EWS : Env := EWR.inl 150 Tryz.f150 fun _ _ => []
theorem EWS_ok : EnvOk Tryz.prog EWS := EWR_ok.inl _ Tryz.func150 rfl (by kernel_rfl)
abbrev aWr0 : ArgL (List UInt8 × (Nat × Nat × Nat × Bool) × Int × Unit) := .cons (.elt .str) (.cons empA (.cons (.elt (.int .i64)) .nil))
def wrong0 := pcOf aWr0 (fun x => [x.1 = blkAB, x.2.2.1 = 0]) (fun _ => .tup [nilSlice, .bool true])
def wr0An : List An := .loop ⟨4, Nat × Nat × Nat × Nat × (Nat → Int), [26, 9], fun y => [.int .i64 (y.1 : Nat), .slice 300 y.2.1 y.2.2.1 [] 1 0 y.1 y.2.2.2.1 (Nat.beq y.1 0)], [], fun y => [⟨300, y.2.1, y.2.2.1, 1, y.1, fun k => .int .u8 (y.2.2.2.2 k), true, false, y.2.2.2.1, 5, Nat.beq y.1 0, none⟩], fun y => y.1 ≤ 8 ∧ y.1 ≤ y.2.2.2.1 ∧ y.2.2.2.1 ≤ 9223372036854775807 ∧ (y.1 = 0 → y.2.2.2.1 = 0), fun y => 8 - y.1⟩ :: .unroll 9 1 :: .unroll 20 1 :: .loop ⟨35, Nat, [125, 22], fun i => [.int .i64 (i : Nat), nilSlice], [], fun _ => [], fun i => i ≤ 10, fun i => 10 - i⟩ :: (rds 34).filter fun a => match a with | .raw k => !(Nat.beq k 4) && !(Nat.beq k 6) && !(Nat.beq k 7) | .det k => !(Nat.beq k 5) | _ => true
theorem wrong0_ok : PcOk Tryz.prog 123 wrong0 := by
  refine pcOf_run (fun _ => EWS_ok) Tryz.func123 rfl (by kernel_rfl) (fun x => ⟨⟨fun _ => ⟨rfl, rfl⟩, Nat.le_refl _, by decide⟩, trivial, trivial⟩)
    (fun x => wr0An) (fun _ => Nat.le_of_ble_eq_true rfl) (fun ⟨s, ⟨b, off, c, z⟩, e, u⟩ hp hw => ?_)
  obtain ⟨h1, h2, _⟩ := hp
  dsimp only at h1 h2
  subst h1 h2
  refine vc_of (q :=
      List.length Vt.blkAB≤1000000∧∀ (s1:List UInt8), s1=Galois.revL Vt.blkAB→∀ (b1:Nat), (b1=b1∧0=0)∧(∃ (x1:Nat × Nat × Nat × Nat × (Nat→Int)), (0:Int)=(↑x1.1:Int)∧SVeq (SV.slice 999999 0 0 [] 0 0 0 0 true) (SV.slice 300 x1.2.1 x1.2.2.1 [] 1 0 x1.1 (x1.2.2.2.1) (Nat.beq x1.1 0))∧(Nat.beq x1.1 0=true∧x1.1=0∧x1.2.2.2.1=0)∧x1.1≤8∧x1.1≤x1.2.2.2.1∧x1.2.2.2.1≤9223372036854775807∧(x1.1=0→x1.2.2.2.1=0))∧∀
      (x2:Nat × Nat × Nat × Nat × (Nat→Int)), x2.1≤8∧x2.1≤x2.2.2.2.1∧x2.2.2.2.1≤9223372036854775807∧(x2.1=0→x2.2.2.2.1=0)→(decide ((↑x2.1:Int) < (8:Int))=true→(b1=b1∧0=0)∧((-9223372036854775808:Int)≤(↑x2.1:Int)∧(↑x2.1:Int)≤(9223372036854775807:Int))∧∀ (v1:Int), v1=Galois.powI (2:Int) (↑x2.1:Int)→(0≤v1∧v1≤255)∧∀ (v2:Int), v2=(↑(Galois.evalF s1 (Int.toNat v1)):Int)→∀ (v3:Int), v3=v2→∀ (b2:Nat),
      (x2.2.1=x2.2.1∧x2.2.2.1=x2.2.2.1)∧(Nat.beq x2.1 0=true→Nat.beq x2.1 0=true)∧0=0∧x2.1≤x2.1∧x2.2.2.2.1≤x2.2.2.2.1∧(x2.1+1)*1≤140737488355328∧x2.1+1≤9223372036854775807∧1≤1∧(b2=b2∧0=0)∧∀ (b3 b4 b5:Nat), x2.1+1≤b5→b5≤9223372036854775807→(Nat.beq x2.1 0=true→1=0→b5=0)→∀ (v4:Int), v4=IntKind.i64.wrap ((↑x2.1:Int)+(1:Int))→∃ (x3:Nat × Nat × Nat × Nat × (Nat→Int)),
      v4=(↑x3.1:Int)∧(b3=x3.2.1∧b4=x3.2.2.1∧0=0∧x2.1+1=x3.1∧b5=x3.2.2.2.1∧(Nat.beq x2.1 0&&decide (1=0))=Nat.beq x3.1 0)∧((b3=x3.2.1∧b4=x3.2.2.1∧(Nat.beq x2.1 0&&decide (1=0))=Nat.beq x3.1 0∧x3.1≤x2.1+1∧x3.1≤x3.2.2.2.1∧x3.2.2.2.1≤b5)∧∀ (i1:Nat), i1 < x3.1→(if i1 < x2.1 then x2.2.2.2.2 i1 else v3)=x3.2.2.2.2 i1)∧(x3.1≤8∧x3.1≤x3.2.2.2.1∧x3.2.2.2.1≤9223372036854775807∧(x3.1=0→x3.2.2.2.1=0))∧8 - x3.1 < 8 -
      x2.1)∧(decide ((↑x2.1:Int) < (8:Int))=false→(decide ((0:Int) < (↑(0:Nat):Int))=true→(0:Int)≤(0:Int)∧(0:Int) < (↑(0:Nat):Int)∧False)∧(decide ((0:Int) < (↑(0:Nat):Int))=false→(0:Int)≤(0:Int)∧(0:Int)≤(0:Int)∧(0:Int)*(↑(9:Nat):Int)≤(140737488355328:Int)∧(0:Int)≤(9223372036854775807:Int)∧∀ (b2:Nat), (decide ((0:Int) < (↑(Int.toNat (0:Int)):Int))=true→False)∧(decide ((0:Int) < (↑(Int.toNat
      (0:Int)):Int))=false→Int.toNat (0:Int)=0∧∀ (x'1:(Nat × Nat × Nat × Bool) × Unit), x'1=((b2, 0, Int.toNat (0:Int), false), ())→∀ (y1:Unit), True→0≤0∧(∀ (k1:Nat), k1 < 0→false=true)∧true=true∧1≤9223372036854775807∧(∃ (x3:Nat), (0:Int)=(↑x3:Int)∧(0=0∧0=0∧0=0∧0=0∧0=0∧true=true)∧Nat.le x3 10)∧∀ (b3:Nat), b3≤10→(decide ((↑b3:Int) < (↑(List.length Vt.blkAB):Int))=true→0=0∧∀ (t1:Bool), t1=false→∀ (v2:Int),
      v2=IntKind.i64.wrap ((↑b3:Int)+(1:Int))→∀ (v3:Int), v3=(↑(List.length Vt.blkAB):Int)→∀ (v4:Int), v4=IntKind.i64.wrap (v2 - v3)→((!t1)=true→(-9223372036854775808:Int)≤v4∧v4≤9223372036854775807)∧∀ (v5:Int), v5=Galois.powI (2:Int) v4→((!t1)=true→0≤v5∧v5≤255)∧∀ (v6:Int), v6=(↑(Galois.evalF ([(1:UInt8)]++Byt.of (fun (k:Nat) ↦ (0:Int)) 0) (Int.toNat v5)):Int)→∀ (t2:Bool), (t2=if (!t1)=true then
      v6==(0:Int) else false)→(t2=true→∀ (b4:Nat), true=true∧8≤140737488355328∧1≤9223372036854775807∧1≤1∧(b4=b4∧0=0)∧∀ (b5 b6:Nat), 1≤b6→b6≤9223372036854775807→(1=0→b6=0)→∀ (v7:Int), v7=IntKind.i64.wrap ((↑b3:Int)+(1:Int))→∃ (x4:Nat), v7=(↑x4:Int)∧SVeq (SV.slice 3 b5 0 [] 1 0 1 b6 (decide (1=0))) (SV.slice 999999 0 0 [] 0 0 0 0 true)∧x4≤10∧10 - x4 < 10 - b3)∧(t2=false→∀ (v7:Int), v7=IntKind.i64.wrap
      ((↑b3:Int)+(1:Int))→∃ (x4:Nat), v7=(↑x4:Int)∧(0=0∧0=0∧0=0∧0=0∧0=0∧true=true)∧x4≤10∧10 - x4 < 10 - b3))∧(decide ((↑b3:Int) < (↑(List.length Vt.blkAB):Int))=false→∀ (v2:Int), v2=(↑(0:Nat):Int)→(0=0∧0=0∧0=0∧0=0∧0=0∧true=true)∧(v2==(0:Int))=true))))) (by kernel_rfl) ?_
  try simp only [eq_self, true_and, and_true, Nat.le_refl, implies_true, forall_const, Bool.false_eq_true, Bool.true_eq_false, reduceCtorEq, false_imp_iff, true_imp_iff, Int.toNat_zero, Int.toNat_natCast, Nat.zero_lt_one, Int.le_refl, allGet]
  refine ⟨by decide, fun s1 _ => ⟨⟨(0, 0, 0, 0, fun _ => 0), rfl, nil_eqv rfl rfl rfl, ⟨rfl, rfl, rfl⟩, by decide, Nat.le_refl _, by decide, fun _ => rfl⟩, fun y hy => ?_⟩⟩
  obtain ⟨i, yb, yo, yc, yf⟩ := y
  obtain ⟨y1, y2, y3, y4⟩ := hy
  dsimp only at y1 y2 y3 y4 ⊢
  refine ⟨fun hlt => ?_, fun hge => ⟨fun h => absurd h (by decide), fun _ => ⟨by decide, by decide, fun b2 => ⟨fun h => absurd h (by decide), fun _ x' _ => ⟨fun k hk => absurd hk (Nat.not_lt_zero _), by decide, ⟨0, rfl, Nat.zero_le _⟩, fun p hp => ⟨fun hlt => ?_, fun hge v2 h2 => by rw [h2]; rfl⟩⟩⟩⟩⟩⟩
  · have hlt := of_decide_eq_true hlt
    refine ⟨⟨by omega, by omega⟩, fun v1 h1 => ⟨by rw [h1]; exact pow_bd _, fun v2 _ v3 _ => ⟨fun h => h, by omega, by omega, fun b3 b4 b5 h5 h6 v4 h4 => ⟨(i + 1, b3, b4, b5, fun k => if k < i then yf k else v3), h4.trans (l_succ (by omega)), ⟨rfl, rfl, rfl, rfl, ?_⟩, ⟨⟨rfl, rfl, ?_, Nat.le_refl _, h5, Nat.le_refl _⟩, fun k hk => rfl⟩, ⟨by show i + 1 ≤ 8; omega, h5, h6, fun q => by cases q⟩, by show 8 - (i + 1) < 8 - i; omega⟩⟩⟩⟩
    · rw [decide_eq_false (fun h => h), Bool.and_false]; rfl
    · rw [decide_eq_false (fun h => h), Bool.and_false]; rfl
  · have hlt := of_decide_eq_true hlt
    have hl : blkAB.length = 10 := rfl
    rw [hl] at hlt ⊢
    have hp2 : p < 10 := by omega
    intro t1 ht1 v2 h2 v3 h3 v4 h4
    rw [w64_id (by omega) (by omega)] at h2
    have h3 : v3 = 10 := h3
    rw [w64_id (by omega) (by omega)] at h4
    refine ⟨fun _ => ⟨by omega, by omega⟩, fun v5 h5 => ⟨fun _ => by rw [h5]; exact pow_bd _, fun v6 h6 t2 ht2 => ?_⟩⟩
    have h6 : v6 = 1 := by
      rw [h6, show [1] ++ Byt.of (fun k => 0) 0 = [1] from rfl, eval_one]; rfl
    have ht : t2 = false := by rw [ht2, ht1, h6]; rfl
    refine ⟨fun h => ?_, fun _ v7 h7 => ⟨p + 1, h7.trans (l_succ (by omega)), by omega, by omega⟩⟩
    rw [ht] at h; cases h
/-! ### mended -/
def EMD : Env := ((E0.addP 113 Galois.back).addP 80 encAB).addE 152 sol0
theorem EMD_ok : EnvOk Tryz.prog EMD := ((E0_ok.addP Galois.back_ok).addP encAB_ok).addE sol0_ok
def EME : Env := EMD.inl 150 Tryz.f150 fun _ _ => []
theorem EME_ok : EnvOk Tryz.prog EME := EMD_ok.inl _ Tryz.func150 rfl (by kernel_rfl)
abbrev aMd0 : ArgL (List UInt8 × (Nat × Nat × Nat × Bool) × Unit) := .cons (.elt .str) (.cons empA .nil)
def mend0 := pcOf aMd0 (fun x => [x.1 = blkAB]) (fun _ => .tup [.str blkAB, .bool true])
theorem mend0_ok : PcOk Tryz.prog 124 mend0 := by
  refine pcOf_run (fun _ => EME_ok) Tryz.func124 rfl (by kernel_rfl) (fun x => ⟨(by decide : blkAB.length ≤ 9223372036854775807), trivial, trivial⟩)
    (fun x => .unroll 5 1 :: .unroll 19 1 :: .draw 24 (.take 0 (.take 1 (.take 2 (.take 3 (.take 4 (.take 5 (.take 6 .fin))))))) [] :: .det 0 :: rds 22) (fun _ => Nat.le_of_ble_eq_true rfl) (fun ⟨s, ⟨b, off, c, z⟩, u⟩ hp hw => ?_)
  obtain ⟨h1, _⟩ := hp
  dsimp only at h1
  subst h1
  refine vc_of (q :=
      List.length Vt.blkAB≤1000000∧∀ (s1:List UInt8), s1=Galois.revL Vt.blkAB→∀ (b1:Nat), (b1=b1∧0=0)∧(0:Int)≤(↑(0:Nat):Int)∧(↑(0:Nat):Int)≤(↑(0:Nat):Int)∧(↑(0:Nat):Int)*(↑(9:Nat):Int)≤(140737488355328:Int)∧(↑(0:Nat):Int)≤(9223372036854775807:Int)∧∀ (b2:Nat), Int.toNat (↑(0:Nat):Int)=0∧∀ (x'1:(Nat × Nat × Nat × Bool) × Unit), x'1=((b2, 0, Int.toNat (↑(0:Nat):Int), false), ())→∀ (y1:Unit), True→∀ (b3
      b4:Nat), List.length Vt.blkAB≤b4→b4≤9223372036854775807→∀ (v1:Int), v1=(↑(List.length Vt.blkAB):Int)→∀ (v2:Int), v2=IntKind.i64.wrap (v1 - (8:Int))→0≤v2∧v2≤(↑b4:Int)∧Int.toNat v2≤List.length Vt.blkAB∧(∀ (k1:Nat), k1 < Int.toNat v2→true=true)∧(b3=b3∧0=0)∧∀ (s2:List UInt8), s2=Byt.of (fun (k:Nat) ↦ (↑(UInt8.toNat (List.getD Vt.blkAB k 0)):Int)) (Int.toNat v2)→s2=[(97:UInt8), (98:UInt8)]∧∀ (s3:List
      UInt8), s3=Vt.blkAB→∀ (v3:Int), v3=0→10≤List.length Vt.blkAB∧(∀ (k2:Nat), k2 < List.length Vt.blkAB→true=true)∧(b3=b3∧0=0)∧∀ (s4:List UInt8), s4=Byt.of (fun (k:Nat) ↦ (↑(UInt8.toNat (List.getD Vt.blkAB k 0)):Int)) (List.length Vt.blkAB)→s3=Vt.blkAB∧(s3==s4)=true) (by kernel_rfl) ?_
  try simp only [eq_self, true_and, and_true, Nat.le_refl, implies_true, forall_const, Bool.false_eq_true, Bool.true_eq_false, reduceCtorEq, false_imp_iff, true_imp_iff, Int.toNat_zero, Int.toNat_natCast, Nat.zero_lt_one, Int.le_refl, allGet]
  refine ⟨by decide, fun s1 _ => ⟨by decide, by decide, by decide, fun b2 x' _ b4 h4 h5 v1 h1 v2 h2 => ?_⟩⟩
  have hl : blkAB.length = 10 := rfl
  rw [hl] at h4 h1
  rw [w64_id (by omega) (by omega)] at h2
  obtain rfl : v2 = 2 := by omega
  refine ⟨by decide, by omega, by decide, fun s2 h2s => ⟨h2s.trans (by decide), fun s3 h3 v3 _ => ⟨by decide, fun s4 h4s => ⟨h3, ?_⟩⟩⟩⟩
  rw [h3, h4s]
  decide
end Vt
namespace Vt
open Go Go.Proofs Eng
set_option linter.unusedVariables false
set_option linter.unusedSimpArgs false
set_option maxHeartbeats 8000000
set_option maxRecDepth 100000
/-! ### slices.Sort of none -/
def sort0 := pcOf aEmp (fun _ => []) (fun _ => .tup [])
def EL0 : Env := ((E0.inl 172 Tryz.f172 fun _ _ => .raw 0 :: .det 0 :: rds 12).inl 148 Tryz.f148 fun _ _ => rds 4).inl 173 Tryz.f173 fun _ _ => .unroll 1 1 :: .raw 0 :: .det 0 :: rds 20
theorem EL0_ok : EnvOk Tryz.prog EL0 := ((E0_ok.inl _ Tryz.func172 rfl (by kernel_rfl)).inl _ Tryz.func148 rfl (by kernel_rfl)).inl _ Tryz.func173 rfl (by kernel_rfl)
def EL1 : Env := EL0.inl 149 Tryz.f149 fun _ _ => .unroll 2 2 :: .raw 0 :: .det 0 :: rds 8
theorem EL1_ok : EnvOk Tryz.prog EL1 := EL0_ok.inl _ Tryz.func149 rfl (by kernel_rfl)
theorem sort0_ok : PcOk Tryz.prog 121 sort0 := by
  refine pcOf_run (fun _ => EL1_ok) Tryz.func121 rfl (by kernel_rfl) (fun x => trivial)
    (fun x => .raw 0 :: rds 3) (fun _ => Nat.le_of_ble_eq_true rfl) (fun ⟨⟨b, off, c, z⟩, u⟩ hp hw => ?_)
  refine vc_of (q :=
      (0:Int)≤IntKind.u8.wrap (IntKind.u64.wrap (↑(0:Nat):Int))∧IntKind.u8.wrap (IntKind.u64.wrap (↑(0:Nat):Int)) < (↑(List.length (List.append (List.append [0, (1:UInt8), (2:UInt8), (2:UInt8), (3:UInt8), (3:UInt8), (3:UInt8), (3:UInt8), (4:UInt8), (4:UInt8), (4:UInt8), (4:UInt8), (4:UInt8), (4:UInt8), (4:UInt8), (4:UInt8), (5:UInt8), (5:UInt8), (5:UInt8), (5:UInt8), (5:UInt8), (5:UInt8), (5:UInt8),
      (5:UInt8), (5:UInt8), (5:UInt8), (5:UInt8), (5:UInt8), (5:UInt8), (5:UInt8), (5:UInt8), (5:UInt8), (6:UInt8), (6:UInt8), (6:UInt8), (6:UInt8), (6:UInt8), (6:UInt8), (6:UInt8), (6:UInt8), (6:UInt8), (6:UInt8), (6:UInt8), (6:UInt8), (6:UInt8), (6:UInt8), (6:UInt8), (6:UInt8), (6:UInt8), (6:UInt8), (6:UInt8), (6:UInt8), (6:UInt8), (6:UInt8), (6:UInt8), (6:UInt8), (6:UInt8), (6:UInt8), (6:UInt8),
      (6:UInt8), (6:UInt8), (6:UInt8), (6:UInt8), (6:UInt8)] [(7:UInt8), (7:UInt8), (7:UInt8), (7:UInt8), (7:UInt8), (7:UInt8), (7:UInt8), (7:UInt8), (7:UInt8), (7:UInt8), (7:UInt8), (7:UInt8), (7:UInt8), (7:UInt8), (7:UInt8), (7:UInt8), (7:UInt8), (7:UInt8), (7:UInt8), (7:UInt8), (7:UInt8), (7:UInt8), (7:UInt8), (7:UInt8), (7:UInt8), (7:UInt8), (7:UInt8), (7:UInt8), (7:UInt8), (7:UInt8), (7:UInt8),
      (7:UInt8), (7:UInt8), (7:UInt8), (7:UInt8), (7:UInt8), (7:UInt8), (7:UInt8), (7:UInt8), (7:UInt8), (7:UInt8), (7:UInt8), (7:UInt8), (7:UInt8), (7:UInt8), (7:UInt8), (7:UInt8), (7:UInt8), (7:UInt8), (7:UInt8), (7:UInt8), (7:UInt8), (7:UInt8), (7:UInt8), (7:UInt8), (7:UInt8), (7:UInt8), (7:UInt8), (7:UInt8), (7:UInt8), (7:UInt8), (7:UInt8), (7:UInt8), (7:UInt8)]) (List.append [(8:UInt8), (8:UInt8),
      (8:UInt8), (8:UInt8), (8:UInt8), (8:UInt8), (8:UInt8), (8:UInt8), (8:UInt8), (8:UInt8), (8:UInt8), (8:UInt8), (8:UInt8), (8:UInt8), (8:UInt8), (8:UInt8), (8:UInt8), (8:UInt8), (8:UInt8), (8:UInt8), (8:UInt8), (8:UInt8), (8:UInt8), (8:UInt8), (8:UInt8), (8:UInt8), (8:UInt8), (8:UInt8), (8:UInt8), (8:UInt8), (8:UInt8), (8:UInt8), (8:UInt8), (8:UInt8), (8:UInt8), (8:UInt8), (8:UInt8), (8:UInt8),
      (8:UInt8), (8:UInt8), (8:UInt8), (8:UInt8), (8:UInt8), (8:UInt8), (8:UInt8), (8:UInt8), (8:UInt8), (8:UInt8), (8:UInt8), (8:UInt8), (8:UInt8), (8:UInt8), (8:UInt8), (8:UInt8), (8:UInt8), (8:UInt8), (8:UInt8), (8:UInt8), (8:UInt8), (8:UInt8), (8:UInt8), (8:UInt8), (8:UInt8), (8:UInt8)] [(8:UInt8), (8:UInt8), (8:UInt8), (8:UInt8), (8:UInt8), (8:UInt8), (8:UInt8), (8:UInt8), (8:UInt8), (8:UInt8),
      (8:UInt8), (8:UInt8), (8:UInt8), (8:UInt8), (8:UInt8), (8:UInt8), (8:UInt8), (8:UInt8), (8:UInt8), (8:UInt8), (8:UInt8), (8:UInt8), (8:UInt8), (8:UInt8), (8:UInt8), (8:UInt8), (8:UInt8), (8:UInt8), (8:UInt8), (8:UInt8), (8:UInt8), (8:UInt8), (8:UInt8), (8:UInt8), (8:UInt8), (8:UInt8), (8:UInt8), (8:UInt8), (8:UInt8), (8:UInt8), (8:UInt8), (8:UInt8), (8:UInt8), (8:UInt8), (8:UInt8), (8:UInt8),
      (8:UInt8), (8:UInt8), (8:UInt8), (8:UInt8), (8:UInt8), (8:UInt8), (8:UInt8), (8:UInt8), (8:UInt8), (8:UInt8), (8:UInt8), (8:UInt8), (8:UInt8), (8:UInt8), (8:UInt8), (8:UInt8), (8:UInt8), (8:UInt8)]))):Int)∧True) (by kernel_rfl) ?_
  try simp only [eq_self, true_and, and_true, Nat.le_refl, implies_true, forall_const, Bool.false_eq_true, Bool.true_eq_false, reduceCtorEq, false_imp_iff, true_imp_iff, Int.toNat_zero, Int.toNat_natCast, Nat.zero_lt_one, Int.le_refl, allGet]
  exact ⟨by decide +kernel, by decide +kernel⟩
/-! ### Clone, Compact, ContainsFunc of none -/
abbrev aNil : ArgL (Unit × Unit) := .cons .nilS .nil
def clone0 := pcOf aNil (fun _ => []) (fun _ => nilSlice)
def EKQ : Env := E0.addQ 30 eqSl
theorem EKQ_ok : EnvOk Tryz.prog EKQ := E0_ok.addQ (eqSl_ok (e := 3) (by kernel_rfl))
instance : Arg.RO Arg.nilS := ⟨fun _ _ _ h => by cases h⟩
theorem clone0_ok : PcOk Tryz.prog 69 clone0 := by
  refine pcOf_run (fun _ => EKQ_ok) Tryz.func69 rfl (by kernel_rfl) (fun x => ⟨fun _ => ⟨rfl, rfl⟩, Nat.le_refl _, by decide⟩)
    (fun x => rds 3) (fun _ => Nat.le_of_ble_eq_true rfl) (fun ⟨u, v⟩ hp hw => ?_)
  refine vc_of (q :=
      0=0∧0=0∧0=0∧0=0∧0=0∧true=true) (by kernel_rfl) ?_
  try simp only [eq_self, true_and, and_true, Nat.le_refl, implies_true, forall_const, Bool.false_eq_true, Bool.true_eq_false, reduceCtorEq, false_imp_iff, true_imp_iff, Int.toNat_zero, Int.toNat_natCast, Nat.zero_lt_one, Int.le_refl, allGet]
/-! ### Decode -/
def ED1 : Env := (((((E0.addP 69 clone0).addP 121 sort0).addP 123 wrong0).addP 124 mend0).inl 99 Tryz.f99 fun _ _ => .unroll 2 1 :: .raw 0 :: .det 0 :: rds 8).inl 65 Tryz.f65 fun _ _ => rds 3
theorem ED1_ok : EnvOk Tryz.prog ED1 := (((((E0_ok.addP clone0_ok).addP sort0_ok).addP wrong0_ok).addP mend0_ok).inl _ Tryz.func99 rfl (by kernel_rfl)).inl _ Tryz.func65 rfl (by kernel_rfl)
def ED2 : Env := ((ED1.inl 122 Tryz.f122 fun _ _ => rds 3).inl 154 Tryz.f154 fun _ _ => .raw 0 :: rds 9).inl 125 Tryz.f125 fun _ _ => .unroll 3 3 :: .unroll 11 3 :: .raw 0 :: .det 0 :: rds 15
theorem ED2_ok : EnvOk Tryz.prog ED2 := ((ED1_ok.inl _ Tryz.func122 rfl (by kernel_rfl)).inl _ Tryz.func154 rfl (by kernel_rfl)).inl _ Tryz.func125 rfl (by kernel_rfl)
abbrev aDc0 : ArgL (List UInt8 × Unit × Unit) := .cons (.elt .str) (.cons .nilS .nil)
def dec0 := pcOf aDc0 (fun x => [x.1 = blkAB]) (fun _ => .tup [.str [97, 98], .int .i64 0, .int .i64 0])
theorem dec0_ok : PcOk Tryz.prog 89 dec0 := by
  refine pcOf_run (fun _ => ED2_ok) Tryz.func89 rfl (by kernel_rfl) (fun x => ⟨(by decide : 2 ≤ 9223372036854775807), trivial, trivial, trivial⟩)
    (fun x => .unroll 8 2 :: .unroll 16 11 :: .draw 12 (.take 0 (.take 1 (.take 2 (.br 3 (.br 4 (.take 5 (.take 6 (.take 7 (.take 8 (.take 9 (.take 10 .fin)))))) .stop) .stop)))) [] :: .draw 18 (.take 0 (.take 1 (.take 2 (.take 3 (.take 4 (.take 5 (.take 6 .fin))))))) [] :: .raw 0 :: .det 0 :: rds 21) (fun _ => Nat.le_of_ble_eq_true rfl) (fun ⟨s, u, v⟩ hp hw => ?_)
  obtain ⟨h1, _⟩ := hp
  dsimp only at h1
  subst h1
  refine vc_of (q :=
      ∀ (b1:Nat), (b1=b1∧0=0)∧true=true∧0=0∧(b1=b1∧0=0)∧0=0∧Vt.blkAB=Vt.blkAB∧(0:Int)=(0:Int)∧(b1=b1∧0=0)∧(∀ (b2:Nat), ((0:Int)≤(0:Int)∧(0:Int) < (↑(2:Nat):Int)∧(b2=b2∧0=0)∧0 < 2∧(0:Int)≤IntKind.i64.wrap ((0:Int)+(1:Int))∧IntKind.i64.wrap ((0:Int)+(1:Int)) < (↑(2:Nat):Int)∧(b2=b2∧0=0)∧1 < 2∧(0:Int)≤(0:Int)∧(0:Int) < (↑(2:Nat):Int)∧(b2=b2∧0=0)∧0 <
      2∧true=true∧0≤140737488355328∧0≤9223372036854775807∧true=true∧∀ (b3 b4:Nat), 0≤b4→b4≤9223372036854775807→(0=0→b4=0)→(0:Int)≤IntKind.i64.wrap ((0:Int)+(1:Int))∧IntKind.i64.wrap ((0:Int)+(1:Int)) < (↑(2:Nat):Int)∧(b2=b2∧0=0)∧1 < 2∧(b3=b3∧0=0)∧(decide (0=0)=true→decide (0=0)=true)∧0=0∧0≤0∧b4≤b4∧0≤140737488355328∧0≤9223372036854775807∧true=true∧∀ (b5 b6 b7:Nat), 0≤b7→b7≤9223372036854775807→(decide
      (0=0)=true→0=0→b7=0)→0=0∧Vt.blkAB=Vt.blkAB∧(b1=b1∧0=0)∧(b1=b1∧0=0)∧(0:Int)≤(0:Int)∧(0:Int) < (↑(List.length Vt.blkAB):Int)∧(0:Int)≤(0:Int)∧(0:Int) < (↑(List.length Vt.blkAB):Int)∧(b1=b1∧0=0)∧(0:Int)≤IntKind.i64.wrap ((0:Int)+(1:Int))∧IntKind.i64.wrap ((0:Int)+(1:Int)) < (↑(List.length Vt.blkAB):Int)∧(0:Int)≤IntKind.i64.wrap ((0:Int)+(1:Int))∧IntKind.i64.wrap ((0:Int)+(1:Int)) < (↑(List.length
      Vt.blkAB):Int)∧(b1=b1∧0=0)∧(0:Int)≤IntKind.i64.wrap (IntKind.i64.wrap ((0:Int)+(1:Int))+(1:Int))∧IntKind.i64.wrap (IntKind.i64.wrap ((0:Int)+(1:Int))+(1:Int)) < (↑(List.length Vt.blkAB):Int)∧(0:Int)≤IntKind.i64.wrap (IntKind.i64.wrap ((0:Int)+(1:Int))+(1:Int))∧IntKind.i64.wrap (IntKind.i64.wrap ((0:Int)+(1:Int))+(1:Int)) < (↑(List.length Vt.blkAB):Int)∧(b1=b1∧0=0)∧(0:Int)≤IntKind.i64.wrap
      (IntKind.i64.wrap (IntKind.i64.wrap ((0:Int)+(1:Int))+(1:Int))+(1:Int))∧IntKind.i64.wrap (IntKind.i64.wrap (IntKind.i64.wrap ((0:Int)+(1:Int))+(1:Int))+(1:Int)) < (↑(List.length Vt.blkAB):Int)∧(0:Int)≤IntKind.i64.wrap (IntKind.i64.wrap (IntKind.i64.wrap ((0:Int)+(1:Int))+(1:Int))+(1:Int))∧IntKind.i64.wrap (IntKind.i64.wrap (IntKind.i64.wrap ((0:Int)+(1:Int))+(1:Int))+(1:Int)) < (↑(List.length
      Vt.blkAB):Int)∧(b1=b1∧0=0)∧(0:Int)≤IntKind.i64.wrap (IntKind.i64.wrap (IntKind.i64.wrap (IntKind.i64.wrap ((0:Int)+(1:Int))+(1:Int))+(1:Int))+(1:Int))∧IntKind.i64.wrap (IntKind.i64.wrap (IntKind.i64.wrap (IntKind.i64.wrap ((0:Int)+(1:Int))+(1:Int))+(1:Int))+(1:Int)) < (↑(List.length Vt.blkAB):Int)∧(0:Int)≤IntKind.i64.wrap (IntKind.i64.wrap (IntKind.i64.wrap (IntKind.i64.wrap
      ((0:Int)+(1:Int))+(1:Int))+(1:Int))+(1:Int))∧IntKind.i64.wrap (IntKind.i64.wrap (IntKind.i64.wrap (IntKind.i64.wrap ((0:Int)+(1:Int))+(1:Int))+(1:Int))+(1:Int)) < (↑(List.length Vt.blkAB):Int)∧(b1=b1∧0=0)∧(0:Int)≤IntKind.i64.wrap (IntKind.i64.wrap (IntKind.i64.wrap (IntKind.i64.wrap (IntKind.i64.wrap ((0:Int)+(1:Int))+(1:Int))+(1:Int))+(1:Int))+(1:Int))∧IntKind.i64.wrap (IntKind.i64.wrap
      (IntKind.i64.wrap (IntKind.i64.wrap (IntKind.i64.wrap ((0:Int)+(1:Int))+(1:Int))+(1:Int))+(1:Int))+(1:Int)) < (↑(List.length Vt.blkAB):Int)∧(0:Int)≤IntKind.i64.wrap (IntKind.i64.wrap (IntKind.i64.wrap (IntKind.i64.wrap (IntKind.i64.wrap ((0:Int)+(1:Int))+(1:Int))+(1:Int))+(1:Int))+(1:Int))∧IntKind.i64.wrap (IntKind.i64.wrap (IntKind.i64.wrap (IntKind.i64.wrap (IntKind.i64.wrap
      ((0:Int)+(1:Int))+(1:Int))+(1:Int))+(1:Int))+(1:Int)) < (↑(List.length Vt.blkAB):Int)∧(b1=b1∧0=0)∧(0:Int)≤IntKind.i64.wrap (IntKind.i64.wrap (IntKind.i64.wrap (IntKind.i64.wrap (IntKind.i64.wrap (IntKind.i64.wrap ((0:Int)+(1:Int))+(1:Int))+(1:Int))+(1:Int))+(1:Int))+(1:Int))∧IntKind.i64.wrap (IntKind.i64.wrap (IntKind.i64.wrap (IntKind.i64.wrap (IntKind.i64.wrap (IntKind.i64.wrap
      ((0:Int)+(1:Int))+(1:Int))+(1:Int))+(1:Int))+(1:Int))+(1:Int)) < (↑(List.length Vt.blkAB):Int)∧(0:Int)≤IntKind.i64.wrap (IntKind.i64.wrap (IntKind.i64.wrap (IntKind.i64.wrap (IntKind.i64.wrap (IntKind.i64.wrap ((0:Int)+(1:Int))+(1:Int))+(1:Int))+(1:Int))+(1:Int))+(1:Int))∧IntKind.i64.wrap (IntKind.i64.wrap (IntKind.i64.wrap (IntKind.i64.wrap (IntKind.i64.wrap (IntKind.i64.wrap
      ((0:Int)+(1:Int))+(1:Int))+(1:Int))+(1:Int))+(1:Int))+(1:Int)) < (↑(List.length Vt.blkAB):Int)∧(b1=b1∧0=0)∧(0:Int)≤IntKind.i64.wrap (IntKind.i64.wrap (IntKind.i64.wrap (IntKind.i64.wrap (IntKind.i64.wrap (IntKind.i64.wrap (IntKind.i64.wrap ((0:Int)+(1:Int))+(1:Int))+(1:Int))+(1:Int))+(1:Int))+(1:Int))+(1:Int))∧IntKind.i64.wrap (IntKind.i64.wrap (IntKind.i64.wrap (IntKind.i64.wrap (IntKind.i64.wrap
      (IntKind.i64.wrap (IntKind.i64.wrap ((0:Int)+(1:Int))+(1:Int))+(1:Int))+(1:Int))+(1:Int))+(1:Int))+(1:Int)) < (↑(List.length Vt.blkAB):Int)∧(0:Int)≤IntKind.i64.wrap (IntKind.i64.wrap (IntKind.i64.wrap (IntKind.i64.wrap (IntKind.i64.wrap (IntKind.i64.wrap (IntKind.i64.wrap ((0:Int)+(1:Int))+(1:Int))+(1:Int))+(1:Int))+(1:Int))+(1:Int))+(1:Int))∧IntKind.i64.wrap (IntKind.i64.wrap (IntKind.i64.wrap
      (IntKind.i64.wrap (IntKind.i64.wrap (IntKind.i64.wrap (IntKind.i64.wrap ((0:Int)+(1:Int))+(1:Int))+(1:Int))+(1:Int))+(1:Int))+(1:Int))+(1:Int)) < (↑(List.length Vt.blkAB):Int)∧(b1=b1∧0=0)∧(0:Int)≤IntKind.i64.wrap (IntKind.i64.wrap (IntKind.i64.wrap (IntKind.i64.wrap (IntKind.i64.wrap (IntKind.i64.wrap (IntKind.i64.wrap (IntKind.i64.wrap
      ((0:Int)+(1:Int))+(1:Int))+(1:Int))+(1:Int))+(1:Int))+(1:Int))+(1:Int))+(1:Int))∧IntKind.i64.wrap (IntKind.i64.wrap (IntKind.i64.wrap (IntKind.i64.wrap (IntKind.i64.wrap (IntKind.i64.wrap (IntKind.i64.wrap (IntKind.i64.wrap ((0:Int)+(1:Int))+(1:Int))+(1:Int))+(1:Int))+(1:Int))+(1:Int))+(1:Int))+(1:Int)) < (↑(List.length Vt.blkAB):Int)∧(0:Int)≤IntKind.i64.wrap (IntKind.i64.wrap (IntKind.i64.wrap
      (IntKind.i64.wrap (IntKind.i64.wrap (IntKind.i64.wrap (IntKind.i64.wrap (IntKind.i64.wrap ((0:Int)+(1:Int))+(1:Int))+(1:Int))+(1:Int))+(1:Int))+(1:Int))+(1:Int))+(1:Int))∧IntKind.i64.wrap (IntKind.i64.wrap (IntKind.i64.wrap (IntKind.i64.wrap (IntKind.i64.wrap (IntKind.i64.wrap (IntKind.i64.wrap (IntKind.i64.wrap ((0:Int)+(1:Int))+(1:Int))+(1:Int))+(1:Int))+(1:Int))+(1:Int))+(1:Int))+(1:Int)) <
      (↑(List.length Vt.blkAB):Int)∧(b1=b1∧0=0)∧(0:Int)≤IntKind.i64.wrap (IntKind.i64.wrap (IntKind.i64.wrap (IntKind.i64.wrap (IntKind.i64.wrap (IntKind.i64.wrap (IntKind.i64.wrap (IntKind.i64.wrap (IntKind.i64.wrap ((0:Int)+(1:Int))+(1:Int))+(1:Int))+(1:Int))+(1:Int))+(1:Int))+(1:Int))+(1:Int))+(1:Int))∧IntKind.i64.wrap (IntKind.i64.wrap (IntKind.i64.wrap (IntKind.i64.wrap (IntKind.i64.wrap
      (IntKind.i64.wrap (IntKind.i64.wrap (IntKind.i64.wrap (IntKind.i64.wrap ((0:Int)+(1:Int))+(1:Int))+(1:Int))+(1:Int))+(1:Int))+(1:Int))+(1:Int))+(1:Int))+(1:Int)) < (↑(List.length Vt.blkAB):Int)∧(0:Int)≤IntKind.i64.wrap (IntKind.i64.wrap (IntKind.i64.wrap (IntKind.i64.wrap (IntKind.i64.wrap (IntKind.i64.wrap (IntKind.i64.wrap (IntKind.i64.wrap (IntKind.i64.wrap
      ((0:Int)+(1:Int))+(1:Int))+(1:Int))+(1:Int))+(1:Int))+(1:Int))+(1:Int))+(1:Int))+(1:Int))∧IntKind.i64.wrap (IntKind.i64.wrap (IntKind.i64.wrap (IntKind.i64.wrap (IntKind.i64.wrap (IntKind.i64.wrap (IntKind.i64.wrap (IntKind.i64.wrap (IntKind.i64.wrap ((0:Int)+(1:Int))+(1:Int))+(1:Int))+(1:Int))+(1:Int))+(1:Int))+(1:Int))+(1:Int))+(1:Int)) < (↑(List.length Vt.blkAB):Int)∧(0:Int)≤IntKind.i64.wrap
      ((↑(List.length Vt.blkAB):Int) - (8:Int))∧IntKind.i64.wrap ((↑(List.length Vt.blkAB):Int) - (8:Int))≤(↑(List.length Vt.blkAB):Int)∧(0:Int)≤(0:Int)∧(0:Int)≤IntKind.i64.wrap ((↑(List.length Vt.blkAB):Int) - (8:Int))∧List.drop (Int.toNat (0:Int)) (List.take (Int.toNat (IntKind.i64.wrap ((↑(List.length Vt.blkAB):Int) - (8:Int)))) Vt.blkAB)=[(97:UInt8),
      (98:UInt8)]∧(0:Int)=(0:Int)∧(0:Int)=(0:Int))∧True)∧True) (by kernel_rfl) ?_
  try simp only [eq_self, true_and, and_true, Nat.le_refl, implies_true, forall_const, Bool.false_eq_true, Bool.true_eq_false, reduceCtorEq, false_imp_iff, true_imp_iff, Int.toNat_zero, Int.toNat_natCast, Nat.zero_lt_one, Int.le_refl, allGet]
  repeat (first | intro _ | refine ⟨by decide +kernel, ?_⟩)
  all_goals decide +kernel
end Vt
namespace Vt
open Go Go.Proofs Eng
set_option linter.unusedVariables false
set_option linter.unusedSimpArgs false
set_option maxHeartbeats 8000000
set_option maxRecDepth 100000
open Mk (ecR ecR_of)
noncomputable def partsR := ecR Galois.aStrI (fun x => [1 ≤ x.2.1, x.2.1 ≤ 4, x.2.1 ≤ x.1.length, x.1.length ≤ 100000]) (fun x (y : (Nat × Nat) × Galois.PD) => ∀ k, k < x.2.1.toNat → Galois.partN x.1.length k x.2.1.toNat ≤ (y.2 k).2.2 ∧ (y.2 k).2.2 ≤ 9223372036854775807)
  (fun x y => .slice 0 y.1.1 y.1.2 [] 1 0 x.2.1.toNat x.2.1.toNat false) (fun x y => [Galois.ptRow 0 1 x.1.length x.2.1.toNat y.1 y.2, Galois.ptFam 1 x.1 x.2.1.toNat y.2]) 2
theorem partsR_ok : EcOk Tryz.prog 79 partsR := ecR_of Galois.parts_ok
noncomputable def EU1 : Env := (((E0.addP 89 dec0).addE 79 partsR).inl 99 Tryz.f99 fun _ _ => .unroll 2 1 :: .raw 0 :: .det 0 :: rds 8).inl 65 Tryz.f65 fun _ _ => rds 3
theorem EU1_ok : EnvOk Tryz.prog EU1 := (((E0_ok.addP dec0_ok).addE partsR_ok).inl _ Tryz.func99 rfl (by kernel_rfl)).inl _ Tryz.func65 rfl (by kernel_rfl)
noncomputable def EU2 : Env := (((EU1.inl 127 Tryz.f127 fun _ _ => .unroll 2 3 :: .raw 0 :: .det 0 :: rds 8).inl 91 Tryz.f91 fun _ _ => rds 3).inl 126 Tryz.f126 fun _ _ => .raw 0 :: rds 9).inl 90 Tryz.f90 fun _ _ => .unroll 3 3 :: .unroll 11 3 :: .raw 0 :: .det 0 :: rds 15
theorem EU2_ok : EnvOk Tryz.prog EU2 := (((EU1_ok.inl _ Tryz.func127 rfl (by kernel_rfl)).inl _ Tryz.func91 rfl (by kernel_rfl)).inl _ Tryz.func126 rfl (by kernel_rfl)).inl _ Tryz.func90 rfl (by kernel_rfl)
abbrev aUn0 : ArgL (List UInt8 × Int × Unit × Unit) := .cons (.elt .str) (.cons (.elt (.int .i64)) (.cons .nilS .nil))
def unw0 := ecC aUn0 (fun x => [x.1 = blkAB, x.2.1 = 1]) (fun _ (y : Nat × Nat × Nat) => 1 ≤ y.2.2 ∧ y.2.2 ≤ 9223372036854775807) (fun _ y => .tup [.str [97, 98], .slice 0 y.1 y.2.1 [] 1 0 1 y.2.2 false, .int .i64 0])
  (fun _ y => [⟨0, y.1, y.2.1, 1, 1, fun _ => .int .i64 0, true, false, y.2.2, 3, false, none⟩]) 1
theorem unw0_ok : EcOk Tryz.prog 60 unw0 := by
  refine ecC_run (fun _ => EU2_ok) Tryz.func60 rfl (by kernel_rfl) []
    (fun x => .unroll 8 2 :: .unroll 12 1 :: .unroll 24 3 :: .draw 4 (.take 0 (.take 1 (.take 2 (.take 3 (.take 5 (.take 6 (.take 7 (.take 8 (.br 4 (.br 9 (.take 10 (.take 11 .fin)) .stop) .stop))))))))) [] :: .draw 19 (.take 0 (.take 1 (.take 2 (.take 3 (.take 4 (.take 5 (.take 6 (.take 7 (.take 11 (.br 8 (.br 9 (.br 10 (.take 12 (.take 13 (.take 14 (.take 15 (.take 16 (.take 17 (.take 18 (.take 19 .fin)))))))) .stop) .stop) .stop)))))))))) [] :: .raw 0 :: .det 0 :: rds 30) (fun _ => Nat.le_of_ble_eq_true rfl) (fun ⟨s, d, u, v⟩ hp hw => ?_)
  obtain ⟨h1, h2, _⟩ := hp
  dsimp only at h1 h2
  subst h1 h2
  refine vc_of (q :=
      ∀ (b1:Nat), ((if decide ((1:Int) < (1:Int))=true then true else decide ((1:Int) > (4:Int)))=false→b1=b1∧0=0)∧((if (if decide ((1:Int) < (1:Int))=true then true else decide ((1:Int) > (4:Int)))=true then true else decide ((↑(List.length Vt.blkAB):Int) < IntKind.i64.wrap ((9:Int)*(1:Int))))=false→b1=b1∧0=0)∧(b1=b1∧0=0)∧(b1=b1∧0=0)∧(0:Int)≤IntKind.i64.wrap ((↑(List.length Vt.blkAB):Int) -
      IntKind.i64.wrap ((8:Int)*(1:Int)))∧IntKind.i64.wrap ((↑(List.length Vt.blkAB):Int) - IntKind.i64.wrap ((8:Int)*(1:Int)))≤(↑(List.length Vt.blkAB):Int)∧(0:Int)≤(0:Int)∧(0:Int)≤IntKind.i64.wrap ((↑(List.length Vt.blkAB):Int) - IntKind.i64.wrap ((8:Int)*(1:Int)))∧(b1=b1∧0=0)∧(0:Int)≤(↑(List.length Vt.blkAB):Int)∧(↑(List.length Vt.blkAB):Int)≤(↑(List.length Vt.blkAB):Int)∧(0:Int)≤IntKind.i64.wrap
      ((↑(List.length Vt.blkAB):Int) - IntKind.i64.wrap ((8:Int)*(1:Int)))∧IntKind.i64.wrap ((↑(List.length Vt.blkAB):Int) - IntKind.i64.wrap ((8:Int)*(1:Int)))≤(↑(List.length Vt.blkAB):Int)∧((1:Int)≤(1:Int)∧(1:Int)≤(4:Int)∧(1:Int)≤(↑(List.length (List.drop (Int.toNat (0:Int)) (List.take (Int.toNat (IntKind.i64.wrap ((↑(List.length Vt.blkAB):Int) - IntKind.i64.wrap ((8:Int)*(1:Int)))))
      Vt.blkAB))):Int)∧List.length (List.drop (Int.toNat (0:Int)) (List.take (Int.toNat (IntKind.i64.wrap ((↑(List.length Vt.blkAB):Int) - IntKind.i64.wrap ((8:Int)*(1:Int))))) Vt.blkAB))≤100000∧∀ (y1:(Nat × Nat) × (Nat→Nat × Nat × Nat)), (∀ (k:Nat), k < Int.toNat (1:Int)→Galois.partN (List.length (List.drop (Int.toNat (0:Int)) (List.take (Int.toNat (IntKind.i64.wrap ((↑(List.length Vt.blkAB):Int) -
      IntKind.i64.wrap ((8:Int)*(1:Int))))) Vt.blkAB))) k (Int.toNat (1:Int))≤((y1.2 k).2.2)∧((y1.2 k).2.2)≤9223372036854775807)→((1:Int)≤(1:Int)∧(1:Int)≤(4:Int)∧(1:Int)≤(↑(List.length (List.drop (Int.toNat (IntKind.i64.wrap ((↑(List.length Vt.blkAB):Int) - IntKind.i64.wrap ((8:Int)*(1:Int))))) (List.take (Int.toNat (↑(List.length Vt.blkAB):Int)) Vt.blkAB))):Int)∧List.length (List.drop (Int.toNat
      (IntKind.i64.wrap ((↑(List.length Vt.blkAB):Int) - IntKind.i64.wrap ((8:Int)*(1:Int))))) (List.take (Int.toNat (↑(List.length Vt.blkAB):Int)) Vt.blkAB))≤100000∧∀ (y2:(Nat × Nat) × (Nat→Nat × Nat × Nat)), (∀ (k:Nat), k < Int.toNat (1:Int)→Galois.partN (List.length (List.drop (Int.toNat (IntKind.i64.wrap ((↑(List.length Vt.blkAB):Int) - IntKind.i64.wrap ((8:Int)*(1:Int))))) (List.take (Int.toNat
      (↑(List.length Vt.blkAB):Int)) Vt.blkAB))) k (Int.toNat (1:Int))≤((y2.2 k).2.2)∧((y2.2 k).2.2)≤9223372036854775807)→(0:Int)≤IntKind.i64.wrap ((↑(List.length Vt.blkAB):Int) - IntKind.i64.wrap ((8:Int)*(1:Int)))∧IntKind.i64.wrap ((↑(List.length Vt.blkAB):Int) - IntKind.i64.wrap ((8:Int)*(1:Int)))≤IntKind.i64.wrap ((↑(List.length Vt.blkAB):Int) - IntKind.i64.wrap ((8:Int)*(1:Int)))∧IntKind.i64.wrap
      ((↑(List.length Vt.blkAB):Int) - IntKind.i64.wrap ((8:Int)*(1:Int)))*(↑(1:Nat):Int)≤(140737488355328:Int)∧IntKind.i64.wrap ((↑(List.length Vt.blkAB):Int) - IntKind.i64.wrap ((8:Int)*(1:Int)))≤(9223372036854775807:Int)∧∀ (b2:Nat), (0:Int)≤(0:Int)∧(0:Int) < (↑(Int.toNat (1:Int)):Int)∧(y1.1.1=y1.1.1∧y1.1.2=y1.1.2)∧0 < Int.toNat (1:Int)∧(0:Int)≤(0:Int)∧(0:Int) < (↑(Int.toNat
      (1:Int)):Int)∧(y2.1.1=y2.1.1∧y2.1.2=y2.1.2)∧0 < Int.toNat (1:Int)∧(∀ (b3:Nat), ((0:Int)≤(0:Int)∧(0:Int) < (↑(2:Nat):Int)∧(b3=b3∧0=0)∧0 < 2∧(0:Int)≤IntKind.i64.wrap ((0:Int)+(1:Int))∧IntKind.i64.wrap ((0:Int)+(1:Int)) < (↑(2:Nat):Int)∧(b3=b3∧0=0)∧1 < 2∧(0:Int)≤(↑(0:Nat):Int)∧(↑(0:Nat):Int)≤(↑(0:Nat):Int)∧true=true∧10≤140737488355328∧Int.toNat (IntKind.i64.wrap (IntKind.i64.wrap (IntKind.i64.wrap
      ((0:Int)+(↑(Galois.partN (List.length (List.drop (Int.toNat (0:Int)) (List.take (Int.toNat (IntKind.i64.wrap ((↑(List.length Vt.blkAB):Int) - IntKind.i64.wrap ((8:Int)*(1:Int))))) Vt.blkAB))) 0 (Int.toNat (1:Int))):Int))+(↑(Galois.partN (List.length (List.drop (Int.toNat (IntKind.i64.wrap ((↑(List.length Vt.blkAB):Int) - IntKind.i64.wrap ((8:Int)*(1:Int))))) (List.take (Int.toNat (↑(List.length
      Vt.blkAB):Int)) Vt.blkAB))) 0 (Int.toNat (1:Int))):Int)) - IntKind.i64.wrap ((↑(0:Nat):Int) - (↑(0:Nat):Int))))≤9223372036854775807∧(0:Int)≤IntKind.i64.wrap (IntKind.i64.wrap (IntKind.i64.wrap ((0:Int)+(↑(Galois.partN (List.length (List.drop (Int.toNat (0:Int)) (List.take (Int.toNat (IntKind.i64.wrap ((↑(List.length Vt.blkAB):Int) - IntKind.i64.wrap ((8:Int)*(1:Int))))) Vt.blkAB))) 0 (Int.toNat
      (1:Int))):Int))+(↑(Galois.partN (List.length (List.drop (Int.toNat (IntKind.i64.wrap ((↑(List.length Vt.blkAB):Int) - IntKind.i64.wrap ((8:Int)*(1:Int))))) (List.take (Int.toNat (↑(List.length Vt.blkAB):Int)) Vt.blkAB))) 0 (Int.toNat (1:Int))):Int)) - IntKind.i64.wrap ((↑(0:Nat):Int) - (↑(0:Nat):Int)))∧IntKind.i64.wrap (IntKind.i64.wrap (IntKind.i64.wrap ((0:Int)+(↑(Galois.partN (List.length
      (List.drop (Int.toNat (0:Int)) (List.take (Int.toNat (IntKind.i64.wrap ((↑(List.length Vt.blkAB):Int) - IntKind.i64.wrap ((8:Int)*(1:Int))))) Vt.blkAB))) 0 (Int.toNat (1:Int))):Int))+(↑(Galois.partN (List.length (List.drop (Int.toNat (IntKind.i64.wrap ((↑(List.length Vt.blkAB):Int) - IntKind.i64.wrap ((8:Int)*(1:Int))))) (List.take (Int.toNat (↑(List.length Vt.blkAB):Int)) Vt.blkAB))) 0 (Int.toNat
      (1:Int))):Int)) - IntKind.i64.wrap ((↑(0:Nat):Int) - (↑(0:Nat):Int)))≤(9223372036854775807:Int)∧∀ (b4 b5:Nat), Int.toNat (IntKind.i64.wrap (IntKind.i64.wrap (IntKind.i64.wrap ((0:Int)+(↑(Galois.partN (List.length (List.drop (Int.toNat (0:Int)) (List.take (Int.toNat (IntKind.i64.wrap ((↑(List.length Vt.blkAB):Int) - IntKind.i64.wrap ((8:Int)*(1:Int))))) Vt.blkAB))) 0 (Int.toNat
      (1:Int))):Int))+(↑(Galois.partN (List.length (List.drop (Int.toNat (IntKind.i64.wrap ((↑(List.length Vt.blkAB):Int) - IntKind.i64.wrap ((8:Int)*(1:Int))))) (List.take (Int.toNat (↑(List.length Vt.blkAB):Int)) Vt.blkAB))) 0 (Int.toNat (1:Int))):Int)) - IntKind.i64.wrap ((↑(0:Nat):Int) - (↑(0:Nat):Int))))≤b5→b5≤9223372036854775807→(Int.toNat (IntKind.i64.wrap (IntKind.i64.wrap (IntKind.i64.wrap
      ((0:Int)+(↑(Galois.partN (List.length (List.drop (Int.toNat (0:Int)) (List.take (Int.toNat (IntKind.i64.wrap ((↑(List.length Vt.blkAB):Int) - IntKind.i64.wrap ((8:Int)*(1:Int))))) Vt.blkAB))) 0 (Int.toNat (1:Int))):Int))+(↑(Galois.partN (List.length (List.drop (Int.toNat (IntKind.i64.wrap ((↑(List.length Vt.blkAB):Int) - IntKind.i64.wrap ((8:Int)*(1:Int))))) (List.take (Int.toNat (↑(List.length
      Vt.blkAB):Int)) Vt.blkAB))) 0 (Int.toNat (1:Int))):Int)) - IntKind.i64.wrap ((↑(0:Nat):Int) - (↑(0:Nat):Int))))=0→b5=0)→(0:Int)≤(↑(0:Nat):Int)∧(↑(0:Nat):Int)≤(↑b5:Int)∧(0:Int)≤(0:Int)∧(0:Int) < (↑(2:Nat):Int)∧(b3=b3∧0=0)∧0 < 2∧(b4=b4∧0=0)∧(decide (Int.toNat (IntKind.i64.wrap (IntKind.i64.wrap (IntKind.i64.wrap ((0:Int)+(↑(Galois.partN (List.length (List.drop (Int.toNat (0:Int)) (List.take
      (Int.toNat (IntKind.i64.wrap ((↑(List.length Vt.blkAB):Int) - IntKind.i64.wrap ((8:Int)*(1:Int))))) Vt.blkAB))) 0 (Int.toNat (1:Int))):Int))+(↑(Galois.partN (List.length (List.drop (Int.toNat (IntKind.i64.wrap ((↑(List.length Vt.blkAB):Int) - IntKind.i64.wrap ((8:Int)*(1:Int))))) (List.take (Int.toNat (↑(List.length Vt.blkAB):Int)) Vt.blkAB))) 0 (Int.toNat (1:Int))):Int)) - IntKind.i64.wrap
      ((↑(0:Nat):Int) - (↑(0:Nat):Int))))=0)=true→decide (Int.toNat (IntKind.i64.wrap (IntKind.i64.wrap (IntKind.i64.wrap ((0:Int)+(↑(Galois.partN (List.length (List.drop (Int.toNat (0:Int)) (List.take (Int.toNat (IntKind.i64.wrap ((↑(List.length Vt.blkAB):Int) - IntKind.i64.wrap ((8:Int)*(1:Int))))) Vt.blkAB))) 0 (Int.toNat (1:Int))):Int))+(↑(Galois.partN (List.length (List.drop (Int.toNat
      (IntKind.i64.wrap ((↑(List.length Vt.blkAB):Int) - IntKind.i64.wrap ((8:Int)*(1:Int))))) (List.take (Int.toNat (↑(List.length Vt.blkAB):Int)) Vt.blkAB))) 0 (Int.toNat (1:Int))):Int)) - IntKind.i64.wrap ((↑(0:Nat):Int) - (↑(0:Nat):Int))))=0)=true)∧0=0∧Int.toNat (↑(0:Nat):Int)≤Int.toNat (IntKind.i64.wrap (IntKind.i64.wrap (IntKind.i64.wrap ((0:Int)+(↑(Galois.partN (List.length (List.drop (Int.toNat
      (0:Int)) (List.take (Int.toNat (IntKind.i64.wrap ((↑(List.length Vt.blkAB):Int) - IntKind.i64.wrap ((8:Int)*(1:Int))))) Vt.blkAB))) 0 (Int.toNat (1:Int))):Int))+(↑(Galois.partN (List.length (List.drop (Int.toNat (IntKind.i64.wrap ((↑(List.length Vt.blkAB):Int) - IntKind.i64.wrap ((8:Int)*(1:Int))))) (List.take (Int.toNat (↑(List.length Vt.blkAB):Int)) Vt.blkAB))) 0 (Int.toNat (1:Int))):Int)) -
      IntKind.i64.wrap ((↑(0:Nat):Int) - (↑(0:Nat):Int))))∧b5≤b5∧2≤140737488355328∧2≤9223372036854775807∧2≤Galois.partN (List.length (List.drop (Int.toNat (0:Int)) (List.take (Int.toNat (IntKind.i64.wrap ((↑(List.length Vt.blkAB):Int) - IntKind.i64.wrap ((8:Int)*(1:Int))))) Vt.blkAB))) 0 (Int.toNat (1:Int))∧((y1.2 0).1, ((y1.2 0).2.1))=((y1.2 0).1, ((y1.2 0).2.1))∧0 < Int.toNat (1:Int)∧∀ (b6 b7 b8:Nat),
      2≤b8→b8≤9223372036854775807→(decide (Int.toNat (IntKind.i64.wrap (IntKind.i64.wrap (IntKind.i64.wrap ((0:Int)+(↑(Galois.partN (List.length (List.drop (Int.toNat (0:Int)) (List.take (Int.toNat (IntKind.i64.wrap ((↑(List.length Vt.blkAB):Int) - IntKind.i64.wrap ((8:Int)*(1:Int))))) Vt.blkAB))) 0 (Int.toNat (1:Int))):Int))+(↑(Galois.partN (List.length (List.drop (Int.toNat (IntKind.i64.wrap
      ((↑(List.length Vt.blkAB):Int) - IntKind.i64.wrap ((8:Int)*(1:Int))))) (List.take (Int.toNat (↑(List.length Vt.blkAB):Int)) Vt.blkAB))) 0 (Int.toNat (1:Int))):Int)) - IntKind.i64.wrap ((↑(0:Nat):Int) - (↑(0:Nat):Int))))=0)=true→Galois.partN (List.length (List.drop (Int.toNat (0:Int)) (List.take (Int.toNat (IntKind.i64.wrap ((↑(List.length Vt.blkAB):Int) - IntKind.i64.wrap ((8:Int)*(1:Int)))))
      Vt.blkAB))) 0 (Int.toNat (1:Int))=0→b8=0)→(0:Int)≤IntKind.i64.wrap ((0:Int)+(1:Int))∧IntKind.i64.wrap ((0:Int)+(1:Int)) < (↑(2:Nat):Int)∧(b3=b3∧0=0)∧1 < 2∧(b6=b6∧b7=b7)∧((decide (Int.toNat (IntKind.i64.wrap (IntKind.i64.wrap (IntKind.i64.wrap ((0:Int)+(↑(Galois.partN (List.length (List.drop (Int.toNat (0:Int)) (List.take (Int.toNat (IntKind.i64.wrap ((↑(List.length Vt.blkAB):Int) - IntKind.i64.wrap
      ((8:Int)*(1:Int))))) Vt.blkAB))) 0 (Int.toNat (1:Int))):Int))+(↑(Galois.partN (List.length (List.drop (Int.toNat (IntKind.i64.wrap ((↑(List.length Vt.blkAB):Int) - IntKind.i64.wrap ((8:Int)*(1:Int))))) (List.take (Int.toNat (↑(List.length Vt.blkAB):Int)) Vt.blkAB))) 0 (Int.toNat (1:Int))):Int)) - IntKind.i64.wrap ((↑(0:Nat):Int) - (↑(0:Nat):Int))))=0)&&decide (Galois.partN (List.length (List.drop
      (Int.toNat (0:Int)) (List.take (Int.toNat (IntKind.i64.wrap ((↑(List.length Vt.blkAB):Int) - IntKind.i64.wrap ((8:Int)*(1:Int))))) Vt.blkAB))) 0 (Int.toNat (1:Int))=0))=true→(decide (Int.toNat (IntKind.i64.wrap (IntKind.i64.wrap (IntKind.i64.wrap ((0:Int)+(↑(Galois.partN (List.length (List.drop (Int.toNat (0:Int)) (List.take (Int.toNat (IntKind.i64.wrap ((↑(List.length Vt.blkAB):Int) -
      IntKind.i64.wrap ((8:Int)*(1:Int))))) Vt.blkAB))) 0 (Int.toNat (1:Int))):Int))+(↑(Galois.partN (List.length (List.drop (Int.toNat (IntKind.i64.wrap ((↑(List.length Vt.blkAB):Int) - IntKind.i64.wrap ((8:Int)*(1:Int))))) (List.take (Int.toNat (↑(List.length Vt.blkAB):Int)) Vt.blkAB))) 0 (Int.toNat (1:Int))):Int)) - IntKind.i64.wrap ((↑(0:Nat):Int) - (↑(0:Nat):Int))))=0)&&decide (Galois.partN
      (List.length (List.drop (Int.toNat (0:Int)) (List.take (Int.toNat (IntKind.i64.wrap ((↑(List.length Vt.blkAB):Int) - IntKind.i64.wrap ((8:Int)*(1:Int))))) Vt.blkAB))) 0 (Int.toNat (1:Int))=0))=true)∧0=0∧2≤2∧b8≤b8∧10≤140737488355328∧10≤9223372036854775807∧8≤Galois.partN (List.length (List.drop (Int.toNat (IntKind.i64.wrap ((↑(List.length Vt.blkAB):Int) - IntKind.i64.wrap ((8:Int)*(1:Int)))))
      (List.take (Int.toNat (↑(List.length Vt.blkAB):Int)) Vt.blkAB))) 0 (Int.toNat (1:Int))∧((y2.2 0).1, ((y2.2 0).2.1))=((y2.2 0).1, ((y2.2 0).2.1))∧0 < Int.toNat (1:Int)∧∀ (b9 b10 b11:Nat), 10≤b11→b11≤9223372036854775807→((decide (Int.toNat (IntKind.i64.wrap (IntKind.i64.wrap (IntKind.i64.wrap ((0:Int)+(↑(Galois.partN (List.length (List.drop (Int.toNat (0:Int)) (List.take (Int.toNat (IntKind.i64.wrap
      ((↑(List.length Vt.blkAB):Int) - IntKind.i64.wrap ((8:Int)*(1:Int))))) Vt.blkAB))) 0 (Int.toNat (1:Int))):Int))+(↑(Galois.partN (List.length (List.drop (Int.toNat (IntKind.i64.wrap ((↑(List.length Vt.blkAB):Int) - IntKind.i64.wrap ((8:Int)*(1:Int))))) (List.take (Int.toNat (↑(List.length Vt.blkAB):Int)) Vt.blkAB))) 0 (Int.toNat (1:Int))):Int)) - IntKind.i64.wrap ((↑(0:Nat):Int) -
      (↑(0:Nat):Int))))=0)&&decide (Galois.partN (List.length (List.drop (Int.toNat (0:Int)) (List.take (Int.toNat (IntKind.i64.wrap ((↑(List.length Vt.blkAB):Int) - IntKind.i64.wrap ((8:Int)*(1:Int))))) Vt.blkAB))) 0 (Int.toNat (1:Int))=0))=true→Galois.partN (List.length (List.drop (Int.toNat (IntKind.i64.wrap ((↑(List.length Vt.blkAB):Int) - IntKind.i64.wrap ((8:Int)*(1:Int))))) (List.take (Int.toNat
      (↑(List.length Vt.blkAB):Int)) Vt.blkAB))) 0 (Int.toNat (1:Int))=0→b11=0)→(10≤10∧(∀ (k1:Nat), k1 < 10→true=true)∧(b9=b9∧b10=b10)∧true=true∧Byt.of (fun (k:Nat) ↦ if k < 2 then if k < Int.toNat (↑(0:Nat):Int) then (0:Int) else (↑(UInt8.toNat (List.getD (List.drop (Int.toNat (0:Int)) (List.take (Int.toNat (IntKind.i64.wrap ((↑(List.length Vt.blkAB):Int) - IntKind.i64.wrap ((8:Int)*(1:Int)))))
      Vt.blkAB)) (0+(k - Int.toNat (↑(0:Nat):Int))*Int.toNat (1:Int)) 0)):Int) else (↑(UInt8.toNat (List.getD (List.drop (Int.toNat (IntKind.i64.wrap ((↑(List.length Vt.blkAB):Int) - IntKind.i64.wrap ((8:Int)*(1:Int))))) (List.take (Int.toNat (↑(List.length Vt.blkAB):Int)) Vt.blkAB)) (0+(k - 2)*Int.toNat (1:Int)) 0)):Int)) 10=Vt.blkAB∧∀ (b12:Nat),
      true=true∧8≤140737488355328∧1≤9223372036854775807∧1≤1∧(b12=b12∧0=0)∧∀ (b13 b14:Nat), 1≤b14→b14≤9223372036854775807→(1=0→b14=0)→(0:Int)≤(0:Int)∧(0:Int) < (↑(List.length [(97:UInt8), (98:UInt8)]):Int)∧(0:Int)≤IntKind.i64.wrap (IntKind.i64.wrap ((0:Int)*(1:Int))+(0:Int))∧IntKind.i64.wrap (IntKind.i64.wrap ((0:Int)*(1:Int))+(0:Int)) < (↑(Int.toNat (IntKind.i64.wrap ((↑(List.length Vt.blkAB):Int) -
      IntKind.i64.wrap ((8:Int)*(1:Int))))):Int)∧(b2=b2∧0=0)∧0 < Int.toNat (IntKind.i64.wrap ((↑(List.length Vt.blkAB):Int) - IntKind.i64.wrap ((8:Int)*(1:Int))))∧(0:Int)≤IntKind.i64.wrap ((0:Int)+(1:Int))∧IntKind.i64.wrap ((0:Int)+(1:Int)) < (↑(List.length [(97:UInt8), (98:UInt8)]):Int)∧(0:Int)≤IntKind.i64.wrap (IntKind.i64.wrap (IntKind.i64.wrap ((0:Int)+(1:Int))*(1:Int))+(0:Int))∧IntKind.i64.wrap
      (IntKind.i64.wrap (IntKind.i64.wrap ((0:Int)+(1:Int))*(1:Int))+(0:Int)) < (↑(Int.toNat (IntKind.i64.wrap ((↑(List.length Vt.blkAB):Int) - IntKind.i64.wrap ((8:Int)*(1:Int))))):Int)∧(b2=b2∧0=0)∧1 < Int.toNat (IntKind.i64.wrap ((↑(List.length Vt.blkAB):Int) - IntKind.i64.wrap ((8:Int)*(1:Int))))∧(0:Int)≤(0:Int)∧(0:Int) < (↑(1:Nat):Int)∧(b13=b13∧0=0)∧0 < 1∧2≤Int.toNat (IntKind.i64.wrap ((↑(List.length
      Vt.blkAB):Int) - IntKind.i64.wrap ((8:Int)*(1:Int))))∧(∀ (k2:Nat), k2 < Int.toNat (IntKind.i64.wrap ((↑(List.length Vt.blkAB):Int) - IntKind.i64.wrap ((8:Int)*(1:Int))))→true=true)∧(b2=b2∧0=0)∧∀ (s1:List UInt8), s1=Byt.of (fun (k:Nat) ↦ if k=1 then (↑(UInt8.toNat (List.getD [(97:UInt8), (98:UInt8)] (Int.toNat (IntKind.i64.wrap ((0:Int)+(1:Int)))) 0)):Int) else if k=0 then (↑(UInt8.toNat (List.getD
      [(97:UInt8), (98:UInt8)] (Int.toNat (0:Int)) 0)):Int) else (0:Int)) (Int.toNat (IntKind.i64.wrap ((↑(List.length Vt.blkAB):Int) - IntKind.i64.wrap ((8:Int)*(1:Int)))))→∃ (x1:Nat × Nat × Nat), (s1=[(97:UInt8), (98:UInt8)]∧(b13=x1.1∧0=x1.2.1∧0=0∧1=1∧b14=x1.2.2∧decide (1=0)=false)∧(0:Int)=(0:Int))∧((b13=x1.1∧0=x1.2.1∧decide (1=0)=false∧1≤1∧1≤x1.2.2∧x1.2.2≤b14)∧∀ (i1:Nat), i1 <
      1→(0:Int)=(0:Int))∧1≤x1.2.2∧x1.2.2≤9223372036854775807)∧True)∧True)∧True)∧True)∧True) (by kernel_rfl) ?_
  try simp only [eq_self, true_and, and_true, Nat.le_refl, implies_true, forall_const, Bool.false_eq_true, Bool.true_eq_false, reduceCtorEq, false_imp_iff, true_imp_iff, Int.toNat_zero, Int.toNat_natCast, Nat.zero_lt_one, Int.le_refl, allGet]
  repeat (first | intro _ | refine ⟨by first | decide +kernel | assumption | omega, ?_⟩)
  rename_i b13 b14 hb1 hb2 s1 hs1
  exact ⟨(b13, 0, b14), ⟨hs1.trans (by decide +kernel), rfl, rfl, rfl, by decide⟩, ⟨rfl, rfl, by decide, hb1, Nat.le_refl _⟩, hb1, hb2⟩
end Vt
