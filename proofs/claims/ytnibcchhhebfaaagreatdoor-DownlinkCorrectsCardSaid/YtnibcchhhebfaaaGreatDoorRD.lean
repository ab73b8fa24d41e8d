/-
  OWN WORK. Block: Unwrap of interleaved code blocks without errors.
-/
import Derived.Test.YtnibcchhhebfaaaGreatDoorQA
import Derived.Test.YtnibcchhhebfaaaGreatDoorQ7
import Derived.Test.YtnibcchhhebfaaaGreatDoorEngQ
import Derived.Test.YtnibcchhhebfaaaGreatDoorQS
import Derived.Test.YtnibcchhhebfaaaGreatDoorQX
namespace Vt
open Go Go.Proofs Eng
set_option linter.unusedVariables false
set_option linter.unusedSimpArgs false
set_option maxHeartbeats 8000000
set_option maxRecDepth 100000
def eqIf : SV → SV → Option Bool
  | .iface _ _, .val .nilIface => some false
  | .val .nilIface, .val .nilIface => some true
  | _, _ => none
theorem equalIn_in {P : Program} {w : World} {t : TypeId} (ht : P.underlying t = some (.interface #[])) (d : Nat) (k : TypeId) (z : Value) : (Op.equalIn (d + 1) t (.iface k z) .nilIface).run P w = .ok false w := by
  simp [Op.equalIn, run_underlying ht]
theorem equalIn_nn {P : Program} {w : World} {t : TypeId} (ht : P.underlying t = some (.interface #[])) (d : Nat) : (Op.equalIn (d + 1) t .nilIface .nilIface).run P w = .ok true w := by
  simp [Op.equalIn, run_underlying ht]
theorem guardIn_nn {P : Program} {w : World} {t : TypeId} (ht : P.underlying t = some (.interface #[])) (d : Nat) : (Op.eqGuardIn (d + 1) t .nilIface .nilIface).run P w = .ok false w := by
  simp [Op.eqGuardIn, run_underlying ht]
theorem eqIf_ok {P : Program} {t : TypeId} (ht : P.underlying t = some (.interface #[])) : EqOk P t eqIf := by
  intro x y b h hx hy w u v
  have fin : ∀ (a c : Value), ((Op.equalIn 10000 t a c).run P w = .ok b w) → (∀ op, (eqGuard op t u v a c).run P w = .ok () w) → (binOp .eql t a c = (do pure (.bool (← Op.equal t a c)))) → (binOp .neq t a c = (do pure (.bool (!(← Op.equal t a c))))) →
      (do eqGuard .eql t u v a c; binOp .eql t a c : Sem Value).run P w = .ok (.bool b) w ∧ (do eqGuard .neq t u v a c; binOp .neq t a c : Sem Value).run P w = .ok (.bool (!b)) w := fun a c h1 h2 h3 h4 => by
    have h5 : (Op.equal t a c).run P w = .ok b w := h1
    refine ⟨?_, ?_⟩
    · rw [Sem.run_bind, h2, Result.andThen_ok, h3, Sem.run_bind, h5]
      simp
    · rw [Sem.run_bind, h2, Result.andThen_ok, h4, Sem.run_bind, h5]
      simp
  unfold eqIf at h
  split at h
  · rename_i d z
    injection h with h
    subst h
    refine fin _ _ (equalIn_in ht 9999 d z.den) (fun op => ?_) rfl rfl
    cases op <;> rfl
  · injection h with h
    subst h
    refine fin _ _ (equalIn_nn ht 9999) (fun op => ?_) rfl rfl
    have hin : (Op.eqGuardIn Op.maxDepth t .nilIface .nilIface).run P w = .ok false w := guardIn_nn ht 9999
    cases op <;> first
      | rfl
      | (cases u <;> cases v <;> simp [eqGuard, SV.den, hin])
  · cases h
/-- A slice without elements. -/
def empA : Arg (Nat × Nat × Nat × Bool) where
  get := fun v _ => match v with
    | .slice g b off p wd i n c z => some (.p (n = 0) :: [], (b, off + (pathOff p + i * wd), c, z))
    | _ => none
  sv := fun _ x => .slice 999999 x.1 x.2.1 [] 0 0 0 x.2.2.1 x.2.2.2
  hp := fun _ _ => []
  om := fun _ _ _ => []
  rt := fun _ _ => []
  tags := 0
  tg := fun t _ => .nil t 0
  ok := by
    intro v H ps x h hp hw _ t
    split at h
    · rename_i g b off p wd i n c z
      simp only [Option.some.injEq, Prod.mk.injEq] at h
      obtain ⟨rfl, rfl⟩ := h
      have hn : n = 0 := hp.1
      subst hn
      exact ⟨⟨by simp [SV.den, pathOff], by simp [SV.flat, pathOff], hw, rfl⟩, fun _ h => by cases h⟩
    · cases h
instance : Arg.RO empA := ⟨fun _ _ _ h => by cases h⟩
abbrev aEmp : ArgL ((Nat × Nat × Nat × Bool) × Unit) := .cons empA .nil
/-- No bytes. -/
def nil1 : SV := .slice 999999 0 0 [] 1 0 0 0 true
def sol0 := ecC aEmp (fun _ => []) (fun _ (_ : Unit) => True) (fun _ _ => .tup [nil1, .bool true]) (fun _ _ => []) 0
def ESV : Env := (E0.inl 184 Tryz.f184 fun _ _ => .unroll 4 1 :: .unroll 15 1 :: .unroll 22 1 :: .det 0 :: rds 60).addQ 20 eqIf
theorem ESV_ok : EnvOk Tryz.prog ESV := (E0_ok.inl _ Tryz.func184 rfl (by kernel_rfl)).addQ (eqIf_ok (by kernel_rfl))
theorem sol0_ok : EcOk Tryz.prog 152 sol0 := by
  refine ecC_runD (f0 := 183) (fun _ => ESV_ok) Tryz.func152 rfl (by kernel_rfl) Tryz.func183 rfl (by kernel_rfl) [] (fun x => []) (fun x => []) (fun _ => Nat.le_of_ble_eq_true rfl) (fun ⟨⟨b, off, c, z⟩, u⟩ hp hw => ?_)
  refine vc_of (q :=
      ∀ (b1 b2:Nat), (b1=b1∧0=0)∧(b2=b2∧0=0)∧(true=true→(b1=b1∧0=0)∧(b2=b2∧0=0)∧∃ (x1:Unit), (SVeq (SV.slice 999999 0 0 [] 0 0 0 0 true) (SV.slice 999999 0 0 [] 1 0 0 0 true)∧true=true)∧True)∧(true=false→(false=true→∀ (b3:Nat), (b3=b3∧0=0)∧(b1=b1∧0=0)∧(b2=b2∧0=0)∧(b1=b1∧0=0)∧(b2=b2∧0=0)∧∃ (x2:Unit), (SVeq (SV.slice 999999 0 0 [] 0 0 0 0 true) (SV.slice 999999 0 0 [] 1 0 0 0
      true)∧false=true)∧True)∧(false=false→False))) (by kernel_rfl) ?_
  try simp only [eq_self, true_and, and_true, Nat.le_refl, implies_true, forall_const, Bool.false_eq_true, Bool.true_eq_false, reduceCtorEq, false_imp_iff, true_imp_iff, Int.toNat_zero, Int.toNat_natCast, Nat.zero_lt_one, Int.le_refl, allGet]
  first | exact ⟨(), trivial⟩ | exact ⟨(), nil_eqv rfl rfl rfl⟩
/-! ### wrong -/
theorem pow_bd (z : Int) : 0 ≤ Galois.powI 2 z ∧ Galois.powI 2 z ≤ 255 := by
  unfold Galois.powI
  rw [if_neg (by decide)]
  have := Galois.gpow_lt 2 (Galois.expI z)
  show 0 ≤ ((Galois.gpow 2 (Galois.expI z) : Nat) : Int) ∧ ((Galois.gpow 2 (Galois.expI z) : Nat) : Int) ≤ 255
  omega
theorem eval_one (x : Nat) : Galois.evalF [1] x = 1 := by
  unfold Galois.evalF
  show Nat.xor 0 (Galois.gmul (Galois.co [1] 0) (Galois.gpow x 0)) = 1
  have : Galois.gpow x 0 = 1 := rfl
  rw [this]
  decide +kernel
abbrev aCt0 : ArgL ((Nat × Nat × Nat × Bool) × Int × Unit) := .cons empA (.cons (.elt (.int .i64)) .nil)
def cont0 := pcOf aCt0 (fun _ => []) (fun _ => .bool false)
def ECT : Env := E0.inl 127 Tryz.f127 fun _ _ => .unroll 2 1 :: .det 0 :: rds 8
theorem ECT_ok : EnvOk Tryz.prog ECT := E0_ok.inl _ Tryz.func127 rfl (by kernel_rfl)
theorem cont0_ok : PcOk Tryz.prog 91 cont0 := by
  refine pcOf_run (fun _ => ECT_ok) Tryz.func91 rfl (by kernel_rfl) (fun x => trivial)
    (fun x => rds 8) (fun _ => Nat.le_of_ble_eq_true rfl) (fun ⟨⟨b, off, c, z⟩, e, u⟩ hp hw => ?_)
  refine vc_of (q :=
      decide ((-1:Int)≥(0:Int))=false) (by kernel_rfl) ?_
  try simp only [eq_self, true_and, and_true, Nat.le_refl, implies_true, forall_const, Bool.false_eq_true, Bool.true_eq_false, reduceCtorEq, false_imp_iff, true_imp_iff, Int.toNat_zero, Int.toNat_natCast, Nat.zero_lt_one, Int.le_refl, allGet]
  decide
def EWR : Env := (((((E0.addP 153 Galois.eval).addP 113 Galois.back).addP 145 Galois.power).addE 152 sol0).addP 91 cont0).inl 182 Tryz.f182 fun _ _ => [.draw 1 (.take 0 (.take 1 (.take 2 (.take 3 (.take 4 .fin))))) []]
theorem EWR_ok : EnvOk Tryz.prog EWR := (((((E0_ok.addP Galois.eval_ok).addP Galois.back_ok).addP Galois.power_ok).addE sol0_ok).addP cont0_ok).inl _ Tryz.func182 rfl (by kernel_rfl)
def EWS : Env := EWR.inl 150 Tryz.f150 fun _ _ => []
theorem EWS_ok : EnvOk Tryz.prog EWS := EWR_ok.inl _ Tryz.func150 rfl (by kernel_rfl)
abbrev aWr0 : ArgL (List UInt8 × (Nat × Nat × Nat × Bool) × Int × Unit) := .cons (.elt .str) (.cons empA (.cons (.elt (.int .i64)) .nil))
/-! ### mended -/
abbrev aMd0 : ArgL (List UInt8 × (Nat × Nat × Nat × Bool) × Unit) := .cons (.elt .str) (.cons empA .nil)
end Vt
namespace Vt
open Go Go.Proofs Eng
set_option linter.unusedVariables false
set_option linter.unusedSimpArgs false
set_option maxHeartbeats 8000000
set_option maxRecDepth 100000
/-! ### slices.Sort of none -/
def sort0 := pcOf aEmp (fun _ => []) (fun _ => .tup [])
def EL0 : Env := ((E0.inl 172 Tryz.f172 fun _ _ => .raw 0 :: .det 0 :: rds 12).inl 148 Tryz.f148 fun _ _ => rds 4).inl 173 Tryz.f173 fun _ _ => .unroll 1 1 :: .raw 0 :: .det 0 :: rds 20
theorem EL0_ok : EnvOk Tryz.prog EL0 := ((E0_ok.inl _ Tryz.func172 rfl (by kernel_rfl)).inl _ Tryz.func148 rfl (by kernel_rfl)).inl _ Tryz.func173 rfl (by kernel_rfl)
def EL1 : Env := EL0.inl 149 Tryz.f149 fun _ _ => .unroll 2 2 :: .raw 0 :: .det 0 :: rds 8
theorem EL1_ok : EnvOk Tryz.prog EL1 := EL0_ok.inl _ Tryz.func149 rfl (by kernel_rfl)
theorem sort0_ok : PcOk Tryz.prog 121 sort0 := by
  refine pcOf_run (fun _ => EL1_ok) Tryz.func121 rfl (by kernel_rfl) (fun x => trivial)
    (fun x => .raw 0 :: rds 3) (fun _ => Nat.le_of_ble_eq_true rfl) (fun ⟨⟨b, off, c, z⟩, u⟩ hp hw => ?_)
  refine vc_of (q :=
      (0:Int)≤IntKind.u8.wrap (IntKind.u64.wrap (↑(0:Nat):Int))∧IntKind.u8.wrap (IntKind.u64.wrap (↑(0:Nat):Int)) < (↑(List.length (List.append (List.append [0, (1:UInt8), (2:UInt8), (2:UInt8), (3:UInt8), (3:UInt8), (3:UInt8), (3:UInt8), (4:UInt8), (4:UInt8), (4:UInt8), (4:UInt8), (4:UInt8), (4:UInt8), (4:UInt8), (4:UInt8), (5:UInt8), (5:UInt8), (5:UInt8), (5:UInt8), (5:UInt8), (5:UInt8), (5:UInt8),
      (5:UInt8), (5:UInt8), (5:UInt8), (5:UInt8), (5:UInt8), (5:UInt8), (5:UInt8), (5:UInt8), (5:UInt8), (6:UInt8), (6:UInt8), (6:UInt8), (6:UInt8), (6:UInt8), (6:UInt8), (6:UInt8), (6:UInt8), (6:UInt8), (6:UInt8), (6:UInt8), (6:UInt8), (6:UInt8), (6:UInt8), (6:UInt8), (6:UInt8), (6:UInt8), (6:UInt8), (6:UInt8), (6:UInt8), (6:UInt8), (6:UInt8), (6:UInt8), (6:UInt8), (6:UInt8), (6:UInt8), (6:UInt8),
      (6:UInt8), (6:UInt8), (6:UInt8), (6:UInt8), (6:UInt8)] [(7:UInt8), (7:UInt8), (7:UInt8), (7:UInt8), (7:UInt8), (7:UInt8), (7:UInt8), (7:UInt8), (7:UInt8), (7:UInt8), (7:UInt8), (7:UInt8), (7:UInt8), (7:UInt8), (7:UInt8), (7:UInt8), (7:UInt8), (7:UInt8), (7:UInt8), (7:UInt8), (7:UInt8), (7:UInt8), (7:UInt8), (7:UInt8), (7:UInt8), (7:UInt8), (7:UInt8), (7:UInt8), (7:UInt8), (7:UInt8), (7:UInt8),
      (7:UInt8), (7:UInt8), (7:UInt8), (7:UInt8), (7:UInt8), (7:UInt8), (7:UInt8), (7:UInt8), (7:UInt8), (7:UInt8), (7:UInt8), (7:UInt8), (7:UInt8), (7:UInt8), (7:UInt8), (7:UInt8), (7:UInt8), (7:UInt8), (7:UInt8), (7:UInt8), (7:UInt8), (7:UInt8), (7:UInt8), (7:UInt8), (7:UInt8), (7:UInt8), (7:UInt8), (7:UInt8), (7:UInt8), (7:UInt8), (7:UInt8), (7:UInt8), (7:UInt8)]) (List.append [(8:UInt8), (8:UInt8),
      (8:UInt8), (8:UInt8), (8:UInt8), (8:UInt8), (8:UInt8), (8:UInt8), (8:UInt8), (8:UInt8), (8:UInt8), (8:UInt8), (8:UInt8), (8:UInt8), (8:UInt8), (8:UInt8), (8:UInt8), (8:UInt8), (8:UInt8), (8:UInt8), (8:UInt8), (8:UInt8), (8:UInt8), (8:UInt8), (8:UInt8), (8:UInt8), (8:UInt8), (8:UInt8), (8:UInt8), (8:UInt8), (8:UInt8), (8:UInt8), (8:UInt8), (8:UInt8), (8:UInt8), (8:UInt8), (8:UInt8), (8:UInt8),
      (8:UInt8), (8:UInt8), (8:UInt8), (8:UInt8), (8:UInt8), (8:UInt8), (8:UInt8), (8:UInt8), (8:UInt8), (8:UInt8), (8:UInt8), (8:UInt8), (8:UInt8), (8:UInt8), (8:UInt8), (8:UInt8), (8:UInt8), (8:UInt8), (8:UInt8), (8:UInt8), (8:UInt8), (8:UInt8), (8:UInt8), (8:UInt8), (8:UInt8), (8:UInt8)] [(8:UInt8), (8:UInt8), (8:UInt8), (8:UInt8), (8:UInt8), (8:UInt8), (8:UInt8), (8:UInt8), (8:UInt8), (8:UInt8),
      (8:UInt8), (8:UInt8), (8:UInt8), (8:UInt8), (8:UInt8), (8:UInt8), (8:UInt8), (8:UInt8), (8:UInt8), (8:UInt8), (8:UInt8), (8:UInt8), (8:UInt8), (8:UInt8), (8:UInt8), (8:UInt8), (8:UInt8), (8:UInt8), (8:UInt8), (8:UInt8), (8:UInt8), (8:UInt8), (8:UInt8), (8:UInt8), (8:UInt8), (8:UInt8), (8:UInt8), (8:UInt8), (8:UInt8), (8:UInt8), (8:UInt8), (8:UInt8), (8:UInt8), (8:UInt8), (8:UInt8), (8:UInt8),
      (8:UInt8), (8:UInt8), (8:UInt8), (8:UInt8), (8:UInt8), (8:UInt8), (8:UInt8), (8:UInt8), (8:UInt8), (8:UInt8), (8:UInt8), (8:UInt8), (8:UInt8), (8:UInt8), (8:UInt8), (8:UInt8), (8:UInt8), (8:UInt8)]))):Int)∧True) (by kernel_rfl) ?_
  try simp only [eq_self, true_and, and_true, Nat.le_refl, implies_true, forall_const, Bool.false_eq_true, Bool.true_eq_false, reduceCtorEq, false_imp_iff, true_imp_iff, Int.toNat_zero, Int.toNat_natCast, Nat.zero_lt_one, Int.le_refl, allGet]
  exact ⟨by decide +kernel, by decide +kernel⟩
/-! ### Clone, Compact, ContainsFunc of none -/
abbrev aNil : ArgL (Unit × Unit) := .cons .nilS .nil
def clone0 := pcOf aNil (fun _ => []) (fun _ => nilSlice)
def EKQ : Env := E0.addQ 30 eqSl
theorem EKQ_ok : EnvOk Tryz.prog EKQ := E0_ok.addQ (eqSl_ok (e := 3) (by kernel_rfl))
instance : Arg.RO Arg.nilS := ⟨fun _ _ _ h => by cases h⟩
theorem clone0_ok : PcOk Tryz.prog 69 clone0 := by
  refine pcOf_run (fun _ => EKQ_ok) Tryz.func69 rfl (by kernel_rfl) (fun x => ⟨fun _ => ⟨rfl, rfl⟩, Nat.le_refl _, by decide⟩)
    (fun x => rds 3) (fun _ => Nat.le_of_ble_eq_true rfl) (fun ⟨u, v⟩ hp hw => ?_)
  refine vc_of (q :=
      0=0∧0=0∧0=0∧0=0∧0=0∧true=true) (by kernel_rfl) ?_
  try simp only [eq_self, true_and, and_true, Nat.le_refl, implies_true, forall_const, Bool.false_eq_true, Bool.true_eq_false, reduceCtorEq, false_imp_iff, true_imp_iff, Int.toNat_zero, Int.toNat_natCast, Nat.zero_lt_one, Int.le_refl, allGet]
/-! ### Decode -/
abbrev aDc0 : ArgL (List UInt8 × Unit × Unit) := .cons (.elt .str) (.cons .nilS .nil)
end Vt
namespace Vt
open Go Go.Proofs Eng
set_option linter.unusedVariables false
set_option linter.unusedSimpArgs false
set_option maxHeartbeats 8000000
set_option maxRecDepth 100000
def wrongG := pcOf aWr0 (fun x => [x.2.2.1 = 0, x.1.length ≤ 255]) (fun _ => .tup [nilSlice, .bool true])
def wrGAn (n : Nat) : List An := .loop ⟨4, Nat × Nat × Nat × Nat × (Nat → Int), [26, 9], fun y => [.int .i64 (y.1 : Nat), .slice 300 y.2.1 y.2.2.1 [] 1 0 y.1 y.2.2.2.1 (Nat.beq y.1 0)], [], fun y => [⟨300, y.2.1, y.2.2.1, 1, y.1, fun k => .int .u8 (y.2.2.2.2 k), true, false, y.2.2.2.1, 5, Nat.beq y.1 0, none⟩], fun y => y.1 ≤ 8 ∧ y.1 ≤ y.2.2.2.1 ∧ y.2.2.2.1 ≤ 9223372036854775807 ∧ (y.1 = 0 → y.2.2.2.1 = 0), fun y => 8 - y.1⟩ :: .unroll 9 1 :: .unroll 20 1 :: .loop ⟨35, Nat, [125, 22], fun i => [.int .i64 (i : Nat), nilSlice], [], fun _ => [], fun i => i ≤ n, fun i => n - i⟩ :: (rds 34).filter fun a => match a with | .raw k => !(Nat.beq k 4) && !(Nat.beq k 6) && !(Nat.beq k 7) | .det k => !(Nat.beq k 5) | _ => true
theorem wrongG_ok : PcOk Tryz.prog 123 wrongG := by
  refine pcOf_run (fun _ => EWS_ok) Tryz.func123 rfl (by kernel_rfl) (fun x => ⟨⟨fun _ => ⟨rfl, rfl⟩, Nat.le_refl _, by decide⟩, trivial, trivial⟩)
    (fun x => wrGAn x.1.length) (fun _ => Nat.le_of_ble_eq_true rfl) (fun ⟨s, ⟨b, off, c, z⟩, e, u⟩ hp hw => ?_)
  obtain ⟨h1, h2, _⟩ := hp
  dsimp only at h1 h2
  subst h1
  refine vc_of (q :=
      List.length s≤1000000∧∀ (s1:List UInt8), s1=Galois.revL s→∀ (b1:Nat), (b1=b1∧0=0)∧(∃ (x1:Nat × Nat × Nat × Nat × (Nat→Int)), (0:Int)=(↑x1.1:Int)∧SVeq (SV.slice 999999 0 0 [] 0 0 0 0 true) (SV.slice 300 x1.2.1 x1.2.2.1 [] 1 0 x1.1 (x1.2.2.2.1) (Nat.beq x1.1 0))∧(Nat.beq x1.1 0=true∧x1.1=0∧x1.2.2.2.1=0)∧x1.1≤8∧x1.1≤x1.2.2.2.1∧x1.2.2.2.1≤9223372036854775807∧(x1.1=0→x1.2.2.2.1=0))∧∀ (x2:Nat × Nat × Nat
      × Nat × (Nat→Int)), x2.1≤8∧x2.1≤x2.2.2.2.1∧x2.2.2.2.1≤9223372036854775807∧(x2.1=0→x2.2.2.2.1=0)→(decide ((↑x2.1:Int) < (8:Int))=true→(b1=b1∧0=0)∧((-9223372036854775808:Int)≤(↑x2.1:Int)∧(↑x2.1:Int)≤(9223372036854775807:Int))∧∀ (v1:Int), v1=Galois.powI (2:Int) (↑x2.1:Int)→(0≤v1∧v1≤255)∧∀ (v2:Int), v2=(↑(Galois.evalF s1 (Int.toNat v1)):Int)→∀ (v3:Int), v3=v2→∀ (b2:Nat),
      (x2.2.1=x2.2.1∧x2.2.2.1=x2.2.2.1)∧(Nat.beq x2.1 0=true→Nat.beq x2.1 0=true)∧0=0∧x2.1≤x2.1∧x2.2.2.2.1≤x2.2.2.2.1∧(x2.1+1)*1≤140737488355328∧x2.1+1≤9223372036854775807∧1≤1∧(b2=b2∧0=0)∧∀ (b3 b4 b5:Nat), x2.1+1≤b5→b5≤9223372036854775807→(Nat.beq x2.1 0=true→1=0→b5=0)→∀ (v4:Int), v4=IntKind.i64.wrap ((↑x2.1:Int)+(1:Int))→∃ (x3:Nat × Nat × Nat × Nat × (Nat→Int)),
      v4=(↑x3.1:Int)∧(b3=x3.2.1∧b4=x3.2.2.1∧0=0∧x2.1+1=x3.1∧b5=x3.2.2.2.1∧(Nat.beq x2.1 0&&decide (1=0))=Nat.beq x3.1 0)∧((b3=x3.2.1∧b4=x3.2.2.1∧(Nat.beq x2.1 0&&decide (1=0))=Nat.beq x3.1 0∧x3.1≤x2.1+1∧x3.1≤x3.2.2.2.1∧x3.2.2.2.1≤b5)∧∀ (i1:Nat), i1 < x3.1→(if i1 < x2.1 then x2.2.2.2.2 i1 else v3)=x3.2.2.2.2 i1)∧(x3.1≤8∧x3.1≤x3.2.2.2.1∧x3.2.2.2.1≤9223372036854775807∧(x3.1=0→x3.2.2.2.1=0))∧8 - x3.1 < 8 -
      x2.1)∧(decide ((↑x2.1:Int) < (8:Int))=false→(decide ((0:Int) < (↑(0:Nat):Int))=true→(0:Int)≤(0:Int)∧(0:Int) < (↑(0:Nat):Int)∧False)∧(decide ((0:Int) < (↑(0:Nat):Int))=false→(0:Int)≤(0:Int)∧(0:Int)≤(0:Int)∧(0:Int)*(↑(9:Nat):Int)≤(140737488355328:Int)∧(0:Int)≤(9223372036854775807:Int)∧∀ (b2:Nat), (decide ((0:Int) < (↑(Int.toNat (0:Int)):Int))=true→False)∧(decide ((0:Int) < (↑(Int.toNat
      (0:Int)):Int))=false→Int.toNat (0:Int)=0∧∀ (x'1:(Nat × Nat × Nat × Bool) × Unit), x'1=((b2, 0, Int.toNat (0:Int), false), ())→∀ (y1:Unit), True→0≤0∧(∀ (k1:Nat), k1 < 0→false=true)∧true=true∧1≤9223372036854775807∧(∃ (x3:Nat), (0:Int)=(↑x3:Int)∧(0=0∧0=0∧0=0∧0=0∧0=0∧true=true)∧Nat.le x3 (List.length s))∧∀ (b3:Nat), b3≤List.length s→(decide ((↑b3:Int) < (↑(List.length s):Int))=true→0=0∧∀ (t1:Bool),
      t1=false→∀ (v2:Int), v2=IntKind.i64.wrap ((↑b3:Int)+(1:Int))→∀ (v3:Int), v3=(↑(List.length s):Int)→∀ (v4:Int), v4=IntKind.i64.wrap (v2 - v3)→((!t1)=true→(-9223372036854775808:Int)≤v4∧v4≤9223372036854775807)∧∀ (v5:Int), v5=Galois.powI (2:Int) v4→((!t1)=true→0≤v5∧v5≤255)∧∀ (v6:Int), v6=(↑(Galois.evalF ([(1:UInt8)]++Byt.of (fun (k:Nat) ↦ (0:Int)) 0) (Int.toNat v5)):Int)→∀ (t2:Bool), (t2=if (!t1)=true
      then v6==(0:Int) else false)→(t2=true→∀ (b4:Nat), true=true∧8≤140737488355328∧1≤9223372036854775807∧1≤1∧(b4=b4∧0=0)∧∀ (b5 b6:Nat), 1≤b6→b6≤9223372036854775807→(1=0→b6=0)→∀ (v7:Int), v7=IntKind.i64.wrap ((↑b3:Int)+(1:Int))→∃ (x4:Nat), v7=(↑x4:Int)∧SVeq (SV.slice 3 b5 0 [] 1 0 1 b6 (decide (1=0))) (SV.slice 999999 0 0 [] 0 0 0 0 true)∧x4≤List.length s∧List.length s - x4 < List.length s -
      b3)∧(t2=false→∀ (v7:Int), v7=IntKind.i64.wrap ((↑b3:Int)+(1:Int))→∃ (x4:Nat), v7=(↑x4:Int)∧(0=0∧0=0∧0=0∧0=0∧0=0∧true=true)∧x4≤List.length s∧List.length s - x4 < List.length s - b3))∧(decide ((↑b3:Int) < (↑(List.length s):Int))=false→∀ (v2:Int), v2=(↑(0:Nat):Int)→(0=0∧0=0∧0=0∧0=0∧0=0∧true=true)∧(v2==(0:Int))=true))))) (by kernel_rfl) ?_
  try simp only [eq_self, true_and, and_true, Nat.le_refl, implies_true, forall_const, Bool.false_eq_true, Bool.true_eq_false, reduceCtorEq, false_imp_iff, true_imp_iff, Int.toNat_zero, Int.toNat_natCast, Nat.zero_lt_one, Int.le_refl, allGet]
  refine ⟨(by show s.length ≤ 1000000; omega), fun s1 _ => ⟨⟨(0, 0, 0, 0, fun _ => 0), rfl, nil_eqv rfl rfl rfl, ⟨rfl, rfl, rfl⟩, by decide, Nat.le_refl _, by decide, fun _ => rfl⟩, fun y hy => ?_⟩⟩
  obtain ⟨i, yb, yo, yc, yf⟩ := y
  obtain ⟨y1, y2, y3, y4⟩ := hy
  dsimp only at y1 y2 y3 y4 ⊢
  refine ⟨fun hlt => ?_, fun hge => ⟨fun h => absurd h (by decide), fun _ => ⟨by decide, by decide, fun b2 => ⟨fun h => absurd h (by decide), fun _ x' _ => ⟨fun k hk => absurd hk (Nat.not_lt_zero _), by decide, ⟨0, rfl, Nat.zero_le _⟩, fun p hp => ⟨fun hlt => ?_, fun hge v2 h2 => by rw [h2]; rfl⟩⟩⟩⟩⟩⟩
  · have hlt := of_decide_eq_true hlt
    refine ⟨⟨by omega, by omega⟩, fun v1 h1 => ⟨by rw [h1]; exact pow_bd _, fun v2 _ v3 _ => ⟨fun h => h, by omega, by omega, fun b3 b4 b5 h5 h6 v4 h4 => ⟨(i + 1, b3, b4, b5, fun k => if k < i then yf k else v3), h4.trans (l_succ (by omega)), ⟨rfl, rfl, rfl, rfl, ?_⟩, ⟨⟨rfl, rfl, ?_, Nat.le_refl _, h5, Nat.le_refl _⟩, fun k hk => rfl⟩, ⟨by show i + 1 ≤ 8; omega, h5, h6, fun q => by cases q⟩, by show 8 - (i + 1) < 8 - i; omega⟩⟩⟩⟩
    · rw [decide_eq_false (fun h => h), Bool.and_false]; rfl
    · rw [decide_eq_false (fun h => h), Bool.and_false]; rfl
  · have hlt := of_decide_eq_true hlt
    have hp2 : p < s.length := by omega
    intro t1 ht1 v2 h2 v3 h3 v4 h4
    rw [w64_id (by omega) (by omega)] at h2
    have h3 : v3 = s.length := h3
    rw [w64_id (by omega) (by omega)] at h4
    refine ⟨fun _ => ⟨by omega, by omega⟩, fun v5 h5 => ⟨fun _ => by rw [h5]; exact pow_bd _, fun v6 h6 t2 ht2 => ?_⟩⟩
    have h6 : v6 = 1 := by
      rw [h6, show [1] ++ Byt.of (fun k => 0) 0 = [1] from rfl, eval_one]; rfl
    have ht : t2 = false := by rw [ht2, ht1, h6]; rfl
    refine ⟨fun h => ?_, fun _ v7 h7 => ⟨p + 1, h7.trans (l_succ (by omega)), by omega, by omega⟩⟩
    rw [ht] at h; cases h
noncomputable def EGD : Env := ((E0.addP 113 Galois.back).addP 80 Galois.enc).addE 152 sol0
theorem EGD_ok : EnvOk Tryz.prog EGD := ((E0_ok.addP Galois.back_ok).addP Galois.enc_ok).addE sol0_ok
noncomputable def EGE : Env := EGD.inl 150 Tryz.f150 fun _ _ => []
theorem EGE_ok : EnvOk Tryz.prog EGE := EGD_ok.inl _ Tryz.func150 rfl (by kernel_rfl)
def mendG := pcOf aMd0 (fun x => [9 ≤ x.1.length, x.1.length ≤ 231, Galois.encL (x.1.take (x.1.length - 8)) = x.1]) (fun x => .tup [.str x.1, .bool true])
theorem mendG_ok : PcOk Tryz.prog 124 mendG := by
  refine pcOf_runS (fun _ => EGE_ok) Tryz.func124 rfl (by kernel_rfl) (fun x hw => ⟨(by have : x.1.length ≤ 9223372036854775807 := hw _ (List.mem_cons_self ..); exact this), trivial, trivial⟩)
    (fun x => .unroll 5 1 :: .unroll 19 1 :: .draw 24 (.take 0 (.take 1 (.take 2 (.take 3 (.take 4 (.take 5 (.take 6 .fin))))))) [] :: .det 0 :: rds 22) (fun _ => Nat.le_of_ble_eq_true rfl) (fun ⟨s, ⟨b, off, c, z⟩, u⟩ hp hw => ?_)
  obtain ⟨h1, h2, h3, _⟩ := hp
  dsimp only at h1 h2 h3
  refine vc_of (q :=
      List.length s≤1000000∧∀ (s1:List UInt8), s1=Galois.revL s→∀ (b1:Nat), (b1=b1∧0=0)∧(0:Int)≤(↑(0:Nat):Int)∧(↑(0:Nat):Int)≤(↑(0:Nat):Int)∧(↑(0:Nat):Int)*(↑(9:Nat):Int)≤(140737488355328:Int)∧(↑(0:Nat):Int)≤(9223372036854775807:Int)∧∀ (b2:Nat), Int.toNat (↑(0:Nat):Int)=0∧∀ (x'1:(Nat × Nat × Nat × Bool) × Unit), x'1=((b2, 0, Int.toNat (↑(0:Nat):Int), false), ())→∀ (y1:Unit), True→∀ (b3 b4:Nat),
      List.length s≤b4→b4≤9223372036854775807→∀ (v1:Int), v1=(↑(List.length s):Int)→∀ (v2:Int), v2=IntKind.i64.wrap (v1 - (8:Int))→0≤v2∧v2≤(↑b4:Int)∧Int.toNat v2≤List.length s∧(∀ (k1:Nat), k1 < Int.toNat v2→true=true)∧(b3=b3∧0=0)∧∀ (s2:List UInt8), s2=Byt.of (fun (k:Nat) ↦ (↑(UInt8.toNat (List.getD s k 0)):Int)) (Int.toNat v2)→∀ (s3:List UInt8), s3=Galois.encL s2→∀ (v3:Int), v3=Galois.encE s2→List.length
      s≤List.length s∧(∀ (k2:Nat), k2 < List.length s→true=true)∧(b3=b3∧0=0)∧∀ (s4:List UInt8), s4=Byt.of (fun (k:Nat) ↦ (↑(UInt8.toNat (List.getD s k 0)):Int)) (List.length s)→s3=s∧(s3==s4)=true) (by kernel_rfl) ?_
  try simp only [eq_self, true_and, and_true, Nat.le_refl, implies_true, forall_const, Bool.false_eq_true, Bool.true_eq_false, reduceCtorEq, false_imp_iff, true_imp_iff, Int.toNat_zero, Int.toNat_natCast, Nat.zero_lt_one, Int.le_refl, allGet]
  refine ⟨by omega, fun s1 _ => ⟨by decide, by decide, by decide, fun b2 x' _ b4 h4 h5 v1 e1 v2 e2 => ?_⟩⟩
  rw [e1, w64_id (by omega) (by omega)] at e2
  have e2 : v2 = ((s.length - 8 : Nat) : Int) := by omega
  subst e2
  rw [Int.toNat_natCast]
  refine ⟨by omega, by omega, by omega, fun s2 h2s s3 h3s v3 _ s4 h4s => ?_⟩
  have q2 : s2 = s.take (s.length - 8) := h2s.trans (Galois.bytof_self (by rw [List.length_take]; omega) fun k hk => by rw [List.getD_eq_getElem?_getD, List.getD_eq_getElem?_getD, List.getElem?_take_of_lt hk])
  have q4 : s4 = s := h4s.trans (Galois.bytof_self rfl fun k hk => rfl)
  rw [h3s, q2, h3, q4]
  exact ⟨rfl, by simp⟩
end Vt
namespace Vt
open Go Go.Proofs Eng
set_option linter.unusedVariables false
set_option linter.unusedSimpArgs false
set_option maxHeartbeats 8000000
set_option maxRecDepth 100000
abbrev aCf (k : FuncId) : ArgL (Unit × ((Nat × Nat × List UInt8) × Unit) × Unit) := .cons .nilS (.cons (.fnc k (.cons (.ptr 1 (.elt .str)) .nil)) .nil)
def cfn0 (k : FuncId) := pcOf (aCf k) (fun _ => []) (fun _ => .bool false)
def ECF : Env := E0.inl 99 Tryz.f99 fun _ _ => .unroll 2 1 :: .raw 0 :: .det 0 :: rds 8
theorem ECF_ok : EnvOk Tryz.prog ECF := E0_ok.inl _ Tryz.func99 rfl (by kernel_rfl)
theorem cfn0_ok (k : FuncId) : PcOk Tryz.prog 65 (cfn0 k) := by
  refine pcOf_run (fun _ => ECF_ok) Tryz.func65 rfl (by kernel_rfl) (fun x => trivial) (fun x => rds 3) (fun _ => Nat.le_of_ble_eq_true rfl) (fun ⟨u, ⟨⟨b, o, l⟩, v⟩, w⟩ hp hw => ?_)
  refine vc_of (q :=
      decide ((-1:Int)≥(0:Int))=false) (by kernel_rfl) ?_
  try simp only [eq_self, true_and, and_true, Nat.le_refl, implies_true, forall_const, Bool.false_eq_true, Bool.true_eq_false, reduceCtorEq, false_imp_iff, true_imp_iff, Int.toNat_zero, Int.toNat_natCast, Nat.zero_lt_one, Int.le_refl, allGet]
  all_goals decide
def EG1 : Env := ((((E0.addP 69 clone0).addP 121 sort0).addP 123 wrongG).addP 124 mendG).addP 65 (cfn0 120)
theorem EG1_ok : EnvOk Tryz.prog EG1 := ((((E0_ok.addP clone0_ok).addP sort0_ok).addP wrongG_ok).addP mendG_ok).addP (cfn0_ok _)
def EG2 : Env := ((EG1.inl 122 Tryz.f122 fun _ _ => rds 3).inl 154 Tryz.f154 fun _ _ => .raw 0 :: rds 9).inl 125 Tryz.f125 fun _ _ => .unroll 3 3 :: .unroll 11 3 :: .raw 0 :: .det 0 :: rds 15
theorem EG2_ok : EnvOk Tryz.prog EG2 := ((EG1_ok.inl _ Tryz.func122 rfl (by kernel_rfl)).inl _ Tryz.func154 rfl (by kernel_rfl)).inl _ Tryz.func125 rfl (by kernel_rfl)
/-- A code block. -/
def cwB (b : List UInt8) : Prop := 9 ≤ b.length ∧ b.length ≤ 231 ∧ Galois.encL (b.take (b.length - 8)) = b
def decG := pcOf aDc0 (fun x => [cwB x.1]) (fun x => .tup [.str (x.1.take (x.1.length - 8)), .int .i64 0, .int .i64 0])
theorem decG_ok : PcOk Tryz.prog 89 decG := by
  refine pcOf_runS (fun _ => EG2_ok) Tryz.func89 rfl (by kernel_rfl) (fun x hw => ⟨(by have : x.1.length ≤ 9223372036854775807 := hw _ (List.mem_cons_self ..); show (x.1.take (x.1.length - 8)).length ≤ 9223372036854775807; rw [List.length_take]; omega), trivial, trivial, trivial⟩)
    (fun x => [.unroll 8 1, .lp 16 Nat [65, 13] (fun i => [.int .i64 (i : Nat), .int .i64 0]) (fun i => i ≤ x.1.length) (fun i => x.1.length - i), .draw 12 (.take 0 (.take 1 (.take 2 (.br 3 (.br 4 (.take 5 (.take 6 (.take 7 (.take 8 (.take 9 (.take 10 .fin)))))) .stop) .stop)))) [], .draw 18 (.take 0 (.take 1 (.take 2 (.take 3 (.take 4 (.take 5 (.take 6 .fin))))))) [], .raw 7, .raw 8, .raw 4, .raw 6, .raw 10, .raw 11, .det 11, .raw 12, .raw 13, .raw 14]) (fun _ => Nat.le_of_ble_eq_true rfl) (fun ⟨s, u, v⟩ hp hw => ?_)
  obtain ⟨⟨h1, h2, h3⟩, _⟩ := hp
  dsimp only at h1 h2 h3
  refine vc_of (q :=
      ∀ (b1:Nat), (b1=b1∧0=0)∧∀ (v1:Int), v1=(↑(List.length s):Int)→∀ (v2:Int), v2=IntKind.i64.wrap (v1 - (8:Int))→∀ (t1:Bool), (t1=if decide (v2 < (1:Int))=true then true else decide (v2 > (223:Int)))→(t1=false→true=true)∧(t1=false→b1=b1∧0=0)∧∀ (t2:Bool), t2=false→∀ (t3:Bool), (t3=if t1=true then true else t2)→(t3=true→[]=List.take (List.length s - 8)
      s∧(0:Int)=(0:Int)∧(2:Int)=(0:Int))∧(t3=false→true=true∧0=0∧(decide (IntKind.i64.wrap ((↑(0:Nat):Int)+IntKind.i64.wrap ((2:Int)*(0:Int)))≤(8:Int))=true→(b1=b1∧0=0)∧0=0∧(0:Int)=(0:Int)∧List.length s≤255∧((!true)=true→∀ (v3:Int), v3=IntKind.i64.wrap ((0:Int)+(1:Int))→False)∧((!true)=false→(b1=b1∧0=0)∧(∀ (b2:Nat), ((0:Int)≤(0:Int)∧(0:Int) < (↑(2:Nat):Int)∧(b2=b2∧0=0)∧0 < 2∧(0:Int)≤IntKind.i64.wrap
      ((0:Int)+(1:Int))∧IntKind.i64.wrap ((0:Int)+(1:Int)) < (↑(2:Nat):Int)∧(b2=b2∧0=0)∧1 < 2∧(0:Int)≤(0:Int)∧(0:Int) < (↑(2:Nat):Int)∧(b2=b2∧0=0)∧0 < 2∧true=true∧0≤140737488355328∧0≤9223372036854775807∧true=true∧∀ (b3 b4:Nat), 0≤b4→b4≤9223372036854775807→(0=0→b4=0)→(0:Int)≤IntKind.i64.wrap ((0:Int)+(1:Int))∧IntKind.i64.wrap ((0:Int)+(1:Int)) < (↑(2:Nat):Int)∧(b2=b2∧0=0)∧1 < 2∧(b3=b3∧0=0)∧(decide
      (0=0)=true→decide (0=0)=true)∧0=0∧0≤0∧b4≤b4∧0≤140737488355328∧0≤9223372036854775807∧true=true∧∀ (b5 b6 b7:Nat), 0≤b7→b7≤9223372036854775807→(decide (0=0)=true→0=0→b7=0)→0=0∧9≤List.length s∧List.length s≤231∧Galois.encL (List.take (List.length s - 8) s)=s∧((!true)=true→∀ (v4:Int), v4=IntKind.i64.wrap ((0:Int)+(1:Int))→False)∧((!true)=false→(b1=b1∧0=0)∧∀ (v5:Int), v5=(↑(List.length s):Int)→(∃
      (x1:Nat), (0:Int)=(↑x1:Int)∧(0:Int)=(0:Int)∧Nat.le x1 (List.length s))∧∀ (b8:Nat), b8≤List.length s→(decide ((↑b8:Int) < v5)=true→(b1=b1∧0=0)∧(0:Int)≤(↑b8:Int)∧(↑b8:Int) < (↑(List.length s):Int)∧(0:Int)≤(↑b8:Int)∧(↑b8:Int) < (↑(List.length s):Int)∧(((↑(UInt8.toNat (List.getD s (Int.toNat (↑b8:Int)) 0)):Int) != (↑(UInt8.toNat (List.getD s (Int.toNat (↑b8:Int)) 0)):Int))=true→∀ (v6:Int),
      v6=IntKind.i64.wrap ((0:Int)+(1:Int))→∀ (v7:Int), v7=IntKind.i64.wrap ((↑b8:Int)+(1:Int))→∃ (x2:Nat), v7=(↑x2:Int)∧v6=0∧x2≤List.length s∧List.length s - x2 < List.length s - b8)∧(((↑(UInt8.toNat (List.getD s (Int.toNat (↑b8:Int)) 0)):Int) != (↑(UInt8.toNat (List.getD s (Int.toNat (↑b8:Int)) 0)):Int))=false→∀ (v7:Int), v7=IntKind.i64.wrap ((↑b8:Int)+(1:Int))→∃ (x2:Nat),
      v7=(↑x2:Int)∧(0:Int)=(0:Int)∧x2≤List.length s∧List.length s - x2 < List.length s - b8))∧(decide ((↑b8:Int) < v5)=false→0≤v2∧v2≤(↑(List.length s):Int)∧(0:Int)≤(0:Int)∧0≤v2∧List.drop (Int.toNat (0:Int)) (List.take (Int.toNat v2) s)=List.take (List.length s - 8) s∧(0:Int)=(0:Int)∧(0:Int)=(0:Int))))∧True)∧True))∧(decide (IntKind.i64.wrap ((↑(0:Nat):Int)+IntKind.i64.wrap
      ((2:Int)*(0:Int)))≤(8:Int))=false→[]=List.take (List.length s - 8) s∧(0:Int)=(0:Int)∧(50:Int)=(0:Int)))) (by kernel_rfl) ?_
  try simp only [eq_self, true_and, and_true, Nat.le_refl, implies_true, forall_const, Bool.false_eq_true, Bool.true_eq_false, reduceCtorEq, false_imp_iff, true_imp_iff, Int.toNat_zero, Int.toNat_natCast, Nat.zero_lt_one, Int.le_refl, allGet]
  intro v1 e1 v2 e2 t1 f1 t2 f2 t3 f3
  rw [e1, w64_id (by omega) (by omega)] at e2
  have e2 : v2 = ((s.length - 8 : Nat) : Int) := by omega
  have q1 : t1 = false := by rw [f1, decide_eq_false (by omega), decide_eq_false (by omega)]; rfl
  have q3 : t3 = false := by rw [f3, q1, f2]; rfl
  subst e2
  refine ⟨fun h => (by rw [q3] at h; cases h), fun _ => ⟨fun _ => ⟨by omega, fun h => absurd h (by decide), fun _ => ⟨by decide, by decide, by decide, by decide, by decide, by decide, by decide, by decide, by decide, fun b4 _ _ _ => ⟨by decide, by decide, by decide, fun h => h, by decide, by decide, fun b7 _ _ _ => ⟨h1, h2, h3, fun h => absurd h (by decide), fun _ v5 e5 => ⟨⟨0, rfl, Nat.zero_le _⟩, fun i hi => ?_⟩⟩⟩⟩⟩, fun h => absurd h (by decide)⟩⟩
  subst e5
  refine ⟨fun hlt => ?_, fun _ => ⟨by omega, by omega, by omega, by rw [Int.toNat_natCast]; rfl⟩⟩
  have hlt := of_decide_eq_true hlt
  exact ⟨by omega, by omega, by omega, by omega, fun h => absurd h (by simp), fun _ v7 e7 => ⟨i + 1, e7.trans (l_succ (by omega)), by omega, by omega⟩⟩
/-! ### Contains of zeros -/
abbrev aCz : ArgL (RowD Int × Int × Unit) := .cons (.row (.int .i64)) (.cons (.elt (.int .i64)) .nil)
def EIX (x : RowD Int × Int × Unit) : Env := E0.inl 127 Tryz.f127 fun _ _ => [.lp 2 Nat [8] (fun i => [.int .i64 (i : Nat)]) (fun i => i ≤ x.1.n) (fun i => x.1.n - i)]
theorem EIX_ok (x : RowD Int × Int × Unit) : EnvOk Tryz.prog (EIX x) := E0_ok.inl _ Tryz.func127 rfl (by kernel_rfl)
def contZ := pcOf aCz (fun x => [x.2.1 = -1, ∀ k, k < x.1.n → x.1.f k = 0]) (fun _ => .bool false)
theorem contZ_ok : PcOk Tryz.prog 91 contZ := by
  refine pcOf_run EIX_ok Tryz.func91 rfl (by kernel_rfl) (fun x => trivial) (fun x => []) (fun _ => Nat.le_of_ble_eq_true rfl) (fun ⟨⟨b, off, n, c, z, f⟩, v, ()⟩ hp hw => ?_)
  have hn : n ≤ c ∧ c ≤ 9223372036854775807 := (hw _ (List.mem_cons_self ..)).2
  obtain ⟨h1, h2, _⟩ := hp
  dsimp only at h1 h2
  subst h1
  refine vc_of (q :=
      ∀ (v1:Int), v1=(↑n:Int)→(∃ (x1:Nat), (0:Int)=(↑x1:Int)∧Nat.le x1 n)∧∀ (b1:Nat), b1≤n→(decide ((↑b1:Int) < v1)=true→(0:Int)≤(↑b1:Int)∧(↑b1:Int) < (↑n:Int)∧(b=b∧off=off)∧Int.toNat (↑b1:Int) < n∧(((-1:Int)==f (Int.toNat (↑b1:Int)))=true→∀ (v2:Int), v2=(↑b1:Int)→decide (v2≥(0:Int))=false)∧(((-1:Int)==f (Int.toNat (↑b1:Int)))=false→∀ (v3:Int), v3=IntKind.i64.wrap ((↑b1:Int)+(1:Int))→∃ (x2:Nat),
      v3=(↑x2:Int)∧x2≤n∧n - x2 < n - b1))∧(decide ((↑b1:Int) < v1)=false→∀ (v4:Int), v4=(-1:Int)→decide (v4≥(0:Int))=false)) (by kernel_rfl) ?_
  try simp only [eq_self, true_and, and_true, Nat.le_refl, implies_true, forall_const, Bool.false_eq_true, Bool.true_eq_false, reduceCtorEq, false_imp_iff, true_imp_iff, Int.toNat_zero, Int.toNat_natCast, Nat.zero_lt_one, Int.le_refl, allGet]
  intro v1 e1
  subst e1
  refine ⟨⟨0, rfl, Nat.zero_le _⟩, fun i hi => ⟨fun hlt => ?_, fun _ v4 e4 => by rw [e4]; decide⟩⟩
  have hlt := of_decide_eq_true hlt
  refine ⟨by omega, by omega, by omega, fun q => ?_, fun _ v3 e3 => ⟨i + 1, e3.trans (l_succ (by omega)), by omega, by omega⟩⟩
  rw [h2 i (by omega)] at q
  exact absurd q (by decide)
end Vt
namespace Vt
open Go Go.Proofs Eng
open Galois (partN partL partN_iff partN_le partL_len bof_congr pt_beq)
open Mk (ecR ecR_of)
set_option linter.unusedVariables false
set_option linter.unusedSimpArgs false
set_option maxHeartbeats 8000000
set_option maxRecDepth 100000
def concA (args : List SV) (H : Hp) : List An := [.raw 2, .raw 8, .raw 10, .raw 14, .det 0, .unroll 3 3, .unroll 11 3]
def growA (ty : Nat) (z : SV) (args : List SV) (H : Hp) : List An := match args with
  | [_, .int _ n] => [.joinD 6 (fun fr H => ⟨6, Nat × Nat × Nat, [0], fun y => [.slice 400 y.1 y.2.1 [] 1 0 0 y.2.2 (decide (n ≤ 0))], [], fun y => [⟨400, y.1, y.2.1, 1, 0, fun _ => z, true, false, y.2.2, ty, decide (n ≤ 0), none⟩], fun y => n ≤ y.2.2 ∧ y.2.2 ≤ 9223372036854775807 ∧ (n ≤ 0 → y.2.2 = 0), fun _ => 0⟩) 50]
  | _ => []
/-- Unwrap's arguments are refused. -/
def uB (b : List UInt8) (n : Int) : Bool := decide (n < 1) || decide (4 < n) || decide ((b.length : Int) < 9 * n) || decide (231 * n < (b.length : Int))
/-- The word of part j. -/
def uW (b : List UInt8) (n j : Nat) : List UInt8 := partL (b.take (b.length - 8 * n)) j n ++ partL (b.drop (b.length - 8 * n)) j n
def uwD (b : List UInt8) (n j : Nat) : List UInt8 := (uW b n j).take ((uW b n j).length - 8)
/-- The bytes when j parts are done and p bytes of part j. -/
def uwF (b : List UInt8) (n j p k : Nat) : Int := if k % n < j ∨ (k % n = j ∧ k / n < p) then ((uwD b n (k % n)).getD (k / n) 0).toNat else 0
def uwX (b : List UInt8) (n : Nat) (k : Nat) : Int := ((uwD b n (k % n)).getD (k / n) 0).toNat
def unwrapA (b : List UInt8) (n : Int) : List An :=
  [.draw 4 ((.take 0 (.take 1 (.take 2 (.take 3 (.take 5 (.take 6 (.take 7 (.take 8 (.br 4 (.br 9 (.take 10 (.take 11 .fin)) .stop) .stop)))))))))) [],
   .loopD 8 (fun fr H => ⟨8, Nat × Nat × Nat × Nat, [65, 13], fun y => [.int .i64 (y.1 : Nat), .slice 300 y.2.1 y.2.2.1 [] 1 0 y.1 y.2.2.2 (Nat.beq y.1 0)], [5], fun y => [{ entG H 5 with get := fun k => .int .u8 (uwF b n.toNat y.1 0 k) }, ⟨300, y.2.1, y.2.2.1, 1, y.1, fun k => .int .i64 0, true, false, y.2.2.2, 3, Nat.beq y.1 0, none⟩], fun y => y.1 ≤ n.toNat ∧ y.1 ≤ y.2.2.2 ∧ y.2.2.2 ≤ 9223372036854775807 ∧ (y.1 = 0 → y.2.2.2 = 0), fun y => n.toNat - y.1⟩),
   .raw 11, .unroll 12 1,
   .draw 19 ((.take 0 (.take 1 (.take 2 (.take 3 (.take 4 (.take 5 (.take 6 (.take 7 (.take 11 (.br 8 (.br 9 (.br 10 (.take 12 (.take 13 (.take 14 (.take 15 (.take 16 (.take 17 (.take 18 (.take 19 .fin)))))))) .stop) .stop) .stop))))))))))) [],
   .loopD 24 (fun fr H => ⟨24, Nat, [144], fun p => [.int .i64 (p : Nat)], [5], fun p => [{ entG H 5 with get := fun k => .int .u8 (uwF b n.toNat (intOf (slotV fr 14)).toNat p k) }], fun p => p ≤ (uwD b n.toNat (intOf (slotV fr 14)).toNat).length, fun p => (uwD b n.toNat (intOf (slotV fr 14)).toNat).length - p⟩)]
theorem bof_app (f g : Nat → Int) (a b : Nat) : Byt.of (fun k => if k < a then f k else g (k - a)) (a + b) = Byt.of f a ++ Byt.of g b := by
  unfold Byt.of
  rw [List.range_add, List.map_append]
  congr 1
  · exact List.map_congr_left fun k hk => by
      show UInt8.ofNat (if k < a then f k else g (k - a)).toNat = _
      rw [if_pos (List.mem_range.1 hk)]
  · rw [List.map_map]
    exact List.map_congr_left fun k hk => by
      show UInt8.ofNat (if a + k < a then f (a + k) else g (a + k - a)).toNat = _
      rw [if_neg (by omega), Nat.add_sub_cancel_left]
theorem partN_8 {j n : Nat} (hj : j < n) : partN (8 * n) j n = 8 := by
  apply Nat.le_antisymm
  · apply Nat.le_of_not_lt
    intro q
    have := (partN_iff (by omega) 8).1 q
    omega
  · exact (partN_iff (by omega) 7).2 (by omega)
theorem uW_len {b : List UInt8} {n j : Nat} (hj : j < n) (h : 8 * n ≤ b.length) : (uW b n j).length = partN (b.length - 8 * n) j n + 8 := by
  unfold uW
  rw [List.length_append, partL_len, partL_len, List.length_take, List.length_drop, Nat.min_eq_left (Nat.sub_le _ _), Nat.sub_sub_self h, partN_8 hj]
theorem uwD_len {b : List UInt8} {n j : Nat} (hj : j < n) (h : 8 * n ≤ b.length) : (uwD b n j).length ≤ partN (b.length - 8 * n) j n := by
  unfold uwD
  rw [List.length_take, uW_len hj h]
  omega
theorem uwF_put {b : List UInt8} {n j p k : Nat} (hj : j < n) : (if k = p * n + j then (((uwD b n j).getD p 0).toNat : Int) else uwF b n j p k) = uwF b n j (p + 1) k := by
  have e1 : (p * n + j) % n = j := by rw [Nat.mul_comm, Nat.mul_add_mod, Nat.mod_eq_of_lt hj]
  have e2 : (p * n + j) / n = p := by rw [Nat.mul_comm, Nat.mul_add_div (by omega), Nat.div_eq_of_lt hj, Nat.add_zero]
  unfold uwF
  by_cases h : k = p * n + j
  · subst h
    rw [if_pos rfl, e1, e2, if_pos (Or.inr ⟨rfl, by omega⟩)]
  · rw [if_neg h]
    by_cases q : k % n = j ∧ k / n = p
    · exfalso
      apply h
      have := Nat.div_add_mod k n
      rw [q.1, q.2, Nat.mul_comm] at this
      exact this.symm
    · have : (k % n < j ∨ (k % n = j ∧ k / n < p)) ↔ (k % n < j ∨ (k % n = j ∧ k / n < p + 1)) := by
        constructor
        · rintro (a | ⟨a, b⟩)
          · exact Or.inl a
          · exact Or.inr ⟨a, by omega⟩
        · rintro (a | ⟨a, b⟩)
          · exact Or.inl a
          · refine Or.inr ⟨a, ?_⟩
            by_cases c : k / n = p
            · exact (q ⟨a, c⟩).elim
            · omega
      simp only [this]
theorem uwF_next {b : List UInt8} {n j p k : Nat} (hp : (uwD b n j).length ≤ p) : uwF b n j p k = uwF b n (j + 1) 0 k := by
  unfold uwF
  by_cases c : k % n = j
  · rw [c]
    by_cases q : k / n < p
    · rw [if_pos (Or.inr ⟨rfl, q⟩), if_pos (Or.inl (Nat.lt_succ_self _))]
    · rw [if_neg (fun h => h.elim (fun a => Nat.lt_irrefl _ a) (fun a => q a.2)), if_pos (Or.inl (Nat.lt_succ_self _))]
      rw [List.getD_eq_getElem?_getD, List.getElem?_eq_none (by omega)]
      rfl
  · by_cases q : k % n < j
    · rw [if_pos (Or.inl q), if_pos (Or.inl (by omega))]
    · rw [if_neg (fun h => h.elim (fun a => q a) (fun a => c a.1)), if_neg (fun h => h.elim (fun a => by omega) (fun a => Nat.not_lt_zero _ a.2))]
theorem uwF_end {b : List UInt8} {n k : Nat} (hn : 0 < n) : uwF b n n 0 k = uwX b n k := by
  unfold uwF
  rw [if_pos (Or.inl (Nat.mod_lt _ hn))]
  rfl
theorem uwF_zero {b : List UInt8} {n k : Nat} : uwF b n 0 0 k = 0 := by
  unfold uwF
  rw [if_neg]
  rintro (a | ⟨a, b⟩)
  · exact Nat.not_lt_zero _ a
  · exact Nat.not_lt_zero _ b
theorem uB_false {b : List UInt8} {n : Int} (h : uB b n = false) : 1 ≤ n ∧ n ≤ 4 ∧ 9 * n ≤ b.length ∧ b.length ≤ 231 * n := by
  unfold uB at h
  simp only [Bool.or_eq_false_iff, decide_eq_false_iff_not] at h
  omega
theorem uw_all {b : List UInt8} {n : Nat} (hn : 1 ≤ n) (h : 8 * n ≤ b.length) : Byt.of (uwX b n) (b.length - 8 * n) = b.take (b.length - 8 * n) := by
  have hl : (b.take (b.length - 8 * n)).length = b.length - 8 * n := by rw [List.length_take]; omega
  have : ∀ k, k < b.length - 8 * n → uwX b n k = ((b.take (b.length - 8 * n)).getD k 0).toNat := fun k hk => by
    have hj : k % n < n := Nat.mod_lt _ hn
    have hp : k / n < partN (b.length - 8 * n) (k % n) n := (partN_iff hn _).2 (by
      have := Nat.div_add_mod k n
      rw [Nat.mul_comm] at this
      omega)
    have he : k % n + k / n * n = k := by
      have := Nat.div_add_mod k n
      rw [Nat.mul_comm] at this
      omega
    unfold uwX uwD
    have hw := uW_len hj h
    rw [hw, Nat.add_sub_cancel]
    unfold uW
    rw [List.getD_eq_getElem?_getD, List.getElem?_take_of_lt hp, List.getElem?_append_left (by rw [partL_len, hl]; exact hp)]
    unfold partL Byt.of
    rw [List.getElem?_map, hl, List.getElem?_range hp]
    simp only [Option.map_some, Option.getD_some, Int.toNat_natCast, he, UInt8.ofNat_toNat]
  rw [bof_congr this]
  unfold Byt.of
  apply List.ext_getElem
  · simp [hl]
  · intro i h1 h2
    simp only [List.getElem_map, List.getElem_range, Int.toNat_natCast, List.getD_eq_getElem?_getD, List.getElem?_eq_getElem h2, Option.getD_some]
    exact UInt8.ofNat_toNat
theorem uB_eq {b : List UInt8} {n v1 v2 v3 v4 : Int} {t1 t2 t3 t4 t5 : Bool} (ht1 : t1 = if decide (n < 1) = true then true else decide (n > 4)) (h1 : v1 = b.length) (h2 : v2 = IntKind.i64.wrap (9 * n)) (ht2 : t2 = if t1 = true then true else decide (v1 < v2))
    (h3 : v3 = b.length) (h4 : v4 = IntKind.i64.wrap (231 * n)) (ht3 : t3 = if t2 = true then true else decide (v3 > v4)) (ht4 : t4 = false) (ht5 : t5 = if t3 = true then true else t4) : t5 = uB b n := by
  have e4 : t4 = false := ht4
  have e5 : t5 = t3 := by rw [ht5, e4]; cases t3 <;> rfl
  rw [e5]
  unfold uB
  cases a : decide (n < 1) with
  | true => rw [a, if_pos rfl] at ht1; rw [ht1, if_pos rfl] at ht2; rw [ht2, if_pos rfl] at ht3; rw [ht3]; rfl
  | false =>
    rw [a, if_neg (by decide)] at ht1
    have ht1 : t1 = decide (4 < n) := ht1
    cases c : decide (4 < n) with
    | true => rw [ht1, c, if_pos rfl] at ht2; rw [ht2, if_pos rfl] at ht3; rw [ht3]; rfl
    | false =>
      have a := of_decide_eq_false a
      have c' := of_decide_eq_false c
      rw [ht1, c, if_neg (by decide), h1, h2, w64_id (by omega) (by omega)] at ht2
      rw [h3, h4, w64_id (by omega) (by omega)] at ht3
      rw [ht3, ht2]
      cases decide ((b.length : Int) < 9 * n) <;> rfl
/-- All words are code blocks. -/
def cwA (b : List UInt8) (n : Int) : Prop := uB b n = false ∧ ∀ j, j < n.toNat → cwB (uW b n.toNat j)
def EUG1 : Env := (((E0.addE 79 Galois.parts).addP 89 decG).addP 91 contZ).addP 65 (cfn0 88)
theorem EUG1_ok : EnvOk Tryz.prog EUG1 := (((E0_ok.addE Galois.parts_ok).addP decG_ok).addP contZ_ok).addP (cfn0_ok _)
def EUG : Env := (EUG1.inl 126 Tryz.f126 (growA 5 (.int .u8 0))).inl 90 Tryz.f90 concA
theorem EUG_ok : EnvOk Tryz.prog EUG := (EUG1_ok.inl _ Tryz.func126 rfl (by kernel_rfl)).inl _ Tryz.func90 rfl (by kernel_rfl)
abbrev aUnG : ArgL (List UInt8 × Int × Unit × Unit) := .cons (.elt .str) (.cons (.elt (.int .i64)) (.cons .nilS .nil))
def unwG := ecC aUnG (fun x => [cwA x.1 x.2.1]) (fun x (y : Nat × Nat × Nat) => x.2.1.toNat ≤ y.2.2 ∧ y.2.2 ≤ 9223372036854775807)
  (fun x y => .tup [.str (x.1.take (x.1.length - 8 * x.2.1.toNat)), .slice 0 y.1 y.2.1 [] 1 0 x.2.1.toNat y.2.2 false, .int .i64 0]) (fun x y => [⟨0, y.1, y.2.1, 1, x.2.1.toNat, fun _ => .int .i64 0, true, false, y.2.2, 3, false, none⟩]) 1
theorem unwG_ok : EcOk Tryz.prog 60 unwG := by
  refine ecC_run (fun _ => EUG_ok) Tryz.func60 rfl (by kernel_rfl) [] (fun x => unwrapA x.1 x.2.1) (fun _ => Nat.le_of_ble_eq_true rfl) (fun ⟨b, n, (), ()⟩ hp hw => ?_)
  obtain ⟨⟨hb, hcw⟩, _⟩ := hp
  dsimp only at hb hcw
  refine vc_of (q :=
      ∀ (b1:Nat) (t1:Bool), (t1=if decide (n < (1:Int))=true then true else decide (n > (4:Int)))→(t1=false→b1=b1∧0=0)∧∀ (v1:Int), v1=(↑(List.length b):Int)→∀ (v2:Int), v2=IntKind.i64.wrap ((9:Int)*n)→∀ (t2:Bool), (t2=if t1=true then true else decide (v1 < v2))→(t2=false→b1=b1∧0=0)∧∀ (v3:Int), v3=(↑(List.length b):Int)→∀ (v4:Int), v4=IntKind.i64.wrap ((231:Int)*n)→∀ (t3:Bool), (t3=if t2=true then true
      else decide (v3 > v4))→(t3=false→true=true)∧(t3=false→b1=b1∧0=0)∧∀ (t4:Bool), t4=false→∀ (t5:Bool), (t5=if t3=true then true else t4)→(t5=true→∃ (x1:Nat × Nat × Nat), ([]=List.take (List.length b - 8*Int.toNat n) b∧SVeq (SV.slice 999999 0 0 [] 0 0 0 0 true) (SV.slice 0 x1.1 x1.2.1 [] 1 0 (Int.toNat n) x1.2.2 false)∧(2:Int)=(0:Int))∧(false=true∧Int.toNat n=0∧x1.2.2=0)∧Int.toNat
      n≤x1.2.2∧x1.2.2≤9223372036854775807)∧(t5=false→(b1=b1∧0=0)∧∀ (v5:Int), v5=(↑(List.length b):Int)→∀ (v6:Int), v6=IntKind.i64.wrap ((8:Int)*n)→∀ (v7:Int), v7=IntKind.i64.wrap (v5 - v6)→(b1=b1∧0=0)∧0≤v7∧v7≤(↑(List.length b):Int)∧(0:Int)≤(0:Int)∧0≤v7∧(b1=b1∧0=0)∧(0:Int)≤(↑(List.length b):Int)∧(↑(List.length b):Int)≤(↑(List.length b):Int)∧0≤v7∧v7≤(↑(List.length b):Int)∧(∀ (x'1:List UInt8 × Int × Unit),
      x'1=(List.drop (Int.toNat (0:Int)) (List.take (Int.toNat v7) b), n, ())→(1:Int)≤(Prod.snd x'1).1∧(Prod.snd x'1).1≤(4:Int)∧(Prod.snd x'1).1≤(↑(List.length (Prod.fst x'1)):Int)∧List.length (Prod.fst x'1)≤100000∧∀ (y1:(Nat × Nat) × (Nat→Nat × Nat × Nat)), (∀ (k:Nat), k < Int.toNat ((Prod.snd x'1).1)→Galois.partN (List.length (Prod.fst x'1)) k (Int.toNat ((Prod.snd x'1).1))≤((y1.2 k).2.2)∧((y1.2
      k).2.2)≤9223372036854775807)→(∀ (x'2:List UInt8 × Int × Unit), x'2=(List.drop (Int.toNat v7) (List.take (Int.toNat (↑(List.length b):Int)) b), n, ())→(1:Int)≤(Prod.snd x'2).1∧(Prod.snd x'2).1≤(4:Int)∧(Prod.snd x'2).1≤(↑(List.length (Prod.fst x'2)):Int)∧List.length (Prod.fst x'2)≤100000∧∀ (y2:(Nat × Nat) × (Nat→Nat × Nat × Nat)), (∀ (k:Nat), k < Int.toNat ((Prod.snd x'2).1)→Galois.partN (List.length
      (Prod.fst x'2)) k (Int.toNat ((Prod.snd x'2).1))≤((y2.2 k).2.2)∧((y2.2 k).2.2)≤9223372036854775807)→0≤v7∧v7≤v7∧v7*(↑(1:Nat):Int)≤(140737488355328:Int)∧v7≤9223372036854775807∧∀ (b2:Nat), (∃ (x2:Nat × Nat × Nat × Nat), (0:Int)=(↑x2.1:Int)∧SVeq (SV.slice 999999 0 0 [] 0 0 0 0 true) (SV.slice 300 x2.2.1 x2.2.2.1 [] 1 0 x2.1 x2.2.2.2 (Nat.beq x2.1 0))∧((b2=b2∧0=0∧false=false∧Int.toNat v7≤Int.toNat
      v7∧Int.toNat v7≤Int.toNat v7∧Int.toNat v7≤Int.toNat v7)∧∀ (i1:Nat), i1 < Int.toNat v7→(0:Int)=Vt.uwF b (Int.toNat n) x2.1 0 i1)∧(Nat.beq x2.1 0=true∧x2.1=0∧x2.2.2.2=0)∧x2.1≤Int.toNat n∧x2.1≤x2.2.2.2∧x2.2.2.2≤9223372036854775807∧(x2.1=0→x2.2.2.2=0))∧∀ (x3:Nat × Nat × Nat × Nat), x3.1≤Int.toNat n∧x3.1≤x3.2.2.2∧x3.2.2.2≤9223372036854775807∧(x3.1=0→x3.2.2.2=0)→(decide ((↑x3.1:Int) < n)=true→(decide
      ((0:Int) < (↑(0:Nat):Int))=true→(0:Int)≤(0:Int)∧(0:Int) < (↑(0:Nat):Int)∧False)∧(decide ((0:Int) < (↑(0:Nat):Int))=false→(0:Int)≤(↑x3.1:Int)∧(↑x3.1:Int) < (↑(Int.toNat ((Prod.snd x'1).1)):Int)∧(y1.1.1=y1.1.1∧y1.1.2=y1.1.2)∧Int.toNat (↑x3.1:Int) < Int.toNat ((Prod.snd x'1).1)∧(0:Int)≤(↑x3.1:Int)∧(↑x3.1:Int) < (↑(Int.toNat ((Prod.snd x'2).1)):Int)∧(y2.1.1=y2.1.1∧y2.1.2=y2.1.2)∧Int.toNat (↑x3.1:Int) <
      Int.toNat ((Prod.snd x'2).1)∧(∀ (b3:Nat), ((0:Int)≤(0:Int)∧(0:Int) < (↑(2:Nat):Int)∧(b3=b3∧0=0)∧0 < 2∧∀ (v8:Int), v8=(↑(Galois.partN (List.length (Prod.fst x'1)) (Int.toNat (↑x3.1:Int)) (Int.toNat ((Prod.snd x'1).1))):Int)→∀ (v9:Int), v9=IntKind.i64.wrap ((0:Int)+v8)→(decide (v9 < (0:Int))=true→False)∧(decide (v9 < (0:Int))=false→(0:Int)≤IntKind.i64.wrap ((0:Int)+(1:Int))∧IntKind.i64.wrap
      ((0:Int)+(1:Int)) < (↑(2:Nat):Int)∧(b3=b3∧0=0)∧1 < 2∧∀ (v10:Int), v10=(↑(Galois.partN (List.length (Prod.fst x'2)) (Int.toNat (↑x3.1:Int)) (Int.toNat ((Prod.snd x'2).1))):Int)→∀ (v11:Int), v11=IntKind.i64.wrap (v9+v10)→(decide (v11 < (0:Int))=true→False)∧(decide (v11 < (0:Int))=false→(decide (v11 < (0:Int))=true→False)∧(decide (v11 < (0:Int))=false→(∀ (v12:Int), v12=(↑(0:Nat):Int)→∀ (v13:Int),
      v13=(↑(0:Nat):Int)→∀ (v14:Int), v14=IntKind.i64.wrap (v12 - v13)→∀ (v15:Int), v15=IntKind.i64.wrap (v11 - v14)→(decide (v15 > (0:Int))=true→∀ (v16:Int), v16=(↑(0:Nat):Int)→0≤v16∧v16≤(↑(0:Nat):Int)∧true=true∧Int.toNat v15*1≤140737488355328∧Int.toNat v15≤9223372036854775807∧0≤v15∧v15≤9223372036854775807∧∀ (b4 b5:Nat), Int.toNat v15≤b5→b5≤9223372036854775807→(Int.toNat v15=0→b5=0)→∀ (v17:Int),
      v17=(↑(0:Nat):Int)→0≤v17∧v17≤(↑b5:Int)∧∃ (x4:Nat × Nat × Nat), (b4=x4.1∧0=x4.2.1∧0=0∧Int.toNat v17=0∧b5=x4.2.2∧decide (Int.toNat v15=0)=decide (v11≤(0:Int)))∧((b4=x4.1∧0=x4.2.1∧decide (Int.toNat v15=0)=decide (v11≤(0:Int))∧0≤Int.toNat v15∧0≤x4.2.2∧x4.2.2≤b5)∧∀ (i2:Nat), i2 < 0→(0:Int)=(0:Int))∧v11≤(↑x4.2.2:Int)∧x4.2.2≤9223372036854775807∧(v11≤(0:Int)→x4.2.2=0))∧(decide (v15 > (0:Int))=false→∃
      (x4:Nat × Nat × Nat), SVeq (SV.slice 999999 0 0 [] 0 0 0 0 true) (SV.slice 400 x4.1 x4.2.1 [] 1 0 0 x4.2.2 (decide (v11≤(0:Int))))∧(decide (v11≤(0:Int))=true∧0=0∧x4.2.2=0)∧v11≤(↑x4.2.2:Int)∧x4.2.2≤9223372036854775807∧(v11≤(0:Int)→x4.2.2=0)))∧∀ (x4:Nat × Nat × Nat), v11≤(↑x4.2.2:Int)∧x4.2.2≤9223372036854775807∧(v11≤(0:Int)→x4.2.2=0)→(0:Int)≤(0:Int)∧(0:Int) < (↑(2:Nat):Int)∧(b3=b3∧0=0)∧0 <
      2∧(x4.1=x4.1∧x4.2.1=x4.2.1)∧(decide (v11≤(0:Int))=true→decide (v11≤(0:Int))=true)∧0=0∧0≤0∧x4.2.2≤x4.2.2∧(0+Galois.partN (List.length (Prod.fst x'1)) (Int.toNat (↑x3.1:Int)) (Int.toNat ((Prod.snd x'1).1)))*1≤140737488355328∧0+Galois.partN (List.length (Prod.fst x'1)) (Int.toNat (↑x3.1:Int)) (Int.toNat ((Prod.snd x'1).1))≤9223372036854775807∧Galois.partN (List.length (Prod.fst x'1)) (Int.toNat
      (↑x3.1:Int)) (Int.toNat ((Prod.snd x'1).1))≤Galois.partN (List.length (Prod.fst x'1)) (Int.toNat (↑x3.1:Int)) (Int.toNat ((Prod.snd x'1).1))∧((y1.2 (Int.toNat (↑x3.1:Int))).1, ((y1.2 (Int.toNat (↑x3.1:Int))).2).1)=((y1.2 (Int.toNat (↑x3.1:Int))).1, ((y1.2 (Int.toNat (↑x3.1:Int))).2).1)∧Int.toNat (↑x3.1:Int) < Int.toNat ((Prod.snd x'1).1)∧∀ (b4 b5 b6:Nat), 0+Galois.partN (List.length (Prod.fst x'1))
      (Int.toNat (↑x3.1:Int)) (Int.toNat ((Prod.snd x'1).1))≤b6→b6≤9223372036854775807→(decide (v11≤(0:Int))=true→Galois.partN (List.length (Prod.fst x'1)) (Int.toNat (↑x3.1:Int)) (Int.toNat ((Prod.snd x'1).1))=0→b6=0)→(0:Int)≤IntKind.i64.wrap ((0:Int)+(1:Int))∧IntKind.i64.wrap ((0:Int)+(1:Int)) < (↑(2:Nat):Int)∧(b3=b3∧0=0)∧1 < 2∧(b4=b4∧b5=b5)∧((decide (v11≤(0:Int))&&decide (Galois.partN (List.length
      (Prod.fst x'1)) (Int.toNat (↑x3.1:Int)) (Int.toNat ((Prod.snd x'1).1))=0))=true→(decide (v11≤(0:Int))&&decide (Galois.partN (List.length (Prod.fst x'1)) (Int.toNat (↑x3.1:Int)) (Int.toNat ((Prod.snd x'1).1))=0))=true)∧0=0∧0+Galois.partN (List.length (Prod.fst x'1)) (Int.toNat (↑x3.1:Int)) (Int.toNat ((Prod.snd x'1).1))≤0+Galois.partN (List.length (Prod.fst x'1)) (Int.toNat (↑x3.1:Int)) (Int.toNat
      ((Prod.snd x'1).1))∧b6≤b6∧(0+Galois.partN (List.length (Prod.fst x'1)) (Int.toNat (↑x3.1:Int)) (Int.toNat ((Prod.snd x'1).1))+Galois.partN (List.length (Prod.fst x'2)) (Int.toNat (↑x3.1:Int)) (Int.toNat ((Prod.snd x'2).1)))*1≤140737488355328∧0+Galois.partN (List.length (Prod.fst x'1)) (Int.toNat (↑x3.1:Int)) (Int.toNat ((Prod.snd x'1).1))+Galois.partN (List.length (Prod.fst x'2)) (Int.toNat
      (↑x3.1:Int)) (Int.toNat ((Prod.snd x'2).1))≤9223372036854775807∧Galois.partN (List.length (Prod.fst x'2)) (Int.toNat (↑x3.1:Int)) (Int.toNat ((Prod.snd x'2).1))≤Galois.partN (List.length (Prod.fst x'2)) (Int.toNat (↑x3.1:Int)) (Int.toNat ((Prod.snd x'2).1))∧((y2.2 (Int.toNat (↑x3.1:Int))).1, ((y2.2 (Int.toNat (↑x3.1:Int))).2).1)=((y2.2 (Int.toNat (↑x3.1:Int))).1, ((y2.2 (Int.toNat
      (↑x3.1:Int))).2).1)∧Int.toNat (↑x3.1:Int) < Int.toNat ((Prod.snd x'2).1)∧∀ (b7 b8 b9:Nat), 0+Galois.partN (List.length (Prod.fst x'1)) (Int.toNat (↑x3.1:Int)) (Int.toNat ((Prod.snd x'1).1))+Galois.partN (List.length (Prod.fst x'2)) (Int.toNat (↑x3.1:Int)) (Int.toNat ((Prod.snd x'2).1))≤b9→b9≤9223372036854775807→((decide (v11≤(0:Int))&&decide (Galois.partN (List.length (Prod.fst x'1)) (Int.toNat
      (↑x3.1:Int)) (Int.toNat ((Prod.snd x'1).1))=0))=true→Galois.partN (List.length (Prod.fst x'2)) (Int.toNat (↑x3.1:Int)) (Int.toNat ((Prod.snd x'2).1))=0→b9=0)→(0+Galois.partN (List.length (Prod.fst x'1)) (Int.toNat (↑x3.1:Int)) (Int.toNat ((Prod.snd x'1).1))+Galois.partN (List.length (Prod.fst x'2)) (Int.toNat (↑x3.1:Int)) (Int.toNat ((Prod.snd x'2).1))≤0+Galois.partN (List.length (Prod.fst x'1))
      (Int.toNat (↑x3.1:Int)) (Int.toNat ((Prod.snd x'1).1))+Galois.partN (List.length (Prod.fst x'2)) (Int.toNat (↑x3.1:Int)) (Int.toNat ((Prod.snd x'2).1))∧(∀ (k1:Nat), k1 < 0+Galois.partN (List.length (Prod.fst x'1)) (Int.toNat (↑x3.1:Int)) (Int.toNat ((Prod.snd x'1).1))+Galois.partN (List.length (Prod.fst x'2)) (Int.toNat (↑x3.1:Int)) (Int.toNat ((Prod.snd x'2).1))→true=true)∧(b7=b7∧b8=b8)∧∀ (s1:List
      UInt8), s1=Byt.of (fun (k:Nat) ↦ if k < 0+Galois.partN (List.length (Prod.fst x'1)) (Int.toNat (↑x3.1:Int)) (Int.toNat ((Prod.snd x'1).1)) then if k < 0 then (0:Int) else (↑(UInt8.toNat (List.getD (Prod.fst x'1) (Int.toNat (↑x3.1:Int)+(k - 0)*Int.toNat ((Prod.snd x'1).1)) 0)):Int) else (↑(UInt8.toNat (List.getD (Prod.fst x'2) (Int.toNat (↑x3.1:Int)+(k - (0+Galois.partN (List.length (Prod.fst x'1))
      (Int.toNat (↑x3.1:Int)) (Int.toNat ((Prod.snd x'1).1))))*Int.toNat ((Prod.snd x'2).1)) 0)):Int)) (0+Galois.partN (List.length (Prod.fst x'1)) (Int.toNat (↑x3.1:Int)) (Int.toNat ((Prod.snd x'1).1))+Galois.partN (List.length (Prod.fst x'2)) (Int.toNat (↑x3.1:Int)) (Int.toNat ((Prod.snd x'2).1)))→true=true∧Vt.cwB s1∧∀ (s2:List UInt8), s2=List.take (List.length s1 - 8) s1→∀ (v13:Int), v13=0→∀
      (v14:Int), v14=0→((v14 != (0:Int))=true→∀ (b10:Nat), (x3.2.1=x3.2.1∧x3.2.2.1=x3.2.2.1)∧(Nat.beq x3.1 0=true→Nat.beq x3.1 0=true)∧0=0∧x3.1≤x3.1∧x3.2.2.2≤x3.2.2.2∧(x3.1+1)*8≤140737488355328∧x3.1+1≤9223372036854775807∧1≤1∧(b10=b10∧0=0)∧∀ (b11 b12 b13:Nat), x3.1+1≤b13→b13≤9223372036854775807→(Nat.beq x3.1 0=true→1=0→b13=0)→∀ (v15:Int), v15=(↑(List.length s2):Int)→(∃ (x5:Nat),
      (0:Int)=(↑x5:Int)∧((b2=b2∧0=0∧false=false∧Int.toNat v7≤Int.toNat v7∧Int.toNat v7≤Int.toNat v7∧Int.toNat v7≤Int.toNat v7)∧∀ (i2:Nat), i2 < Int.toNat v7→Vt.uwF b (Int.toNat n) x3.1 0 i2=Vt.uwF b (Int.toNat n) (Int.toNat (↑x3.1:Int)) x5 i2)∧Nat.le x5 (List.length (Vt.uwD b (Int.toNat n) (Int.toNat (↑x3.1:Int)))))∧∀ (b14:Nat), b14≤List.length (Vt.uwD b (Int.toNat n) (Int.toNat (↑x3.1:Int)))→(decide
      ((↑b14:Int) < v15)=true→∀ (v16:Int), v16=IntKind.i64.wrap ((↑b14:Int)*n)→∀ (v17:Int), v17=IntKind.i64.wrap (v16+(↑x3.1:Int))→(0:Int)≤(↑b14:Int)∧(↑b14:Int) < (↑(List.length s2):Int)∧0≤v17∧v17 < (↑(Int.toNat v7):Int)∧(b2=b2∧0=0)∧Int.toNat v17 < Int.toNat v7∧∀ (v18:Int), v18=IntKind.i64.wrap ((↑b14:Int)+(1:Int))→∃ (x6:Nat), v18=(↑x6:Int)∧((b2=b2∧0=0∧false=false∧Int.toNat v7≤Int.toNat v7∧Int.toNat
      v7≤Int.toNat v7∧Int.toNat v7≤Int.toNat v7)∧∀ (i3:Nat), i3 < Int.toNat v7→(if i3=Int.toNat v17 then (↑(UInt8.toNat (List.getD s2 (Int.toNat (↑b14:Int)) 0)):Int) else Vt.uwF b (Int.toNat n) (Int.toNat (↑x3.1:Int)) b14 i3)=Vt.uwF b (Int.toNat n) (Int.toNat (↑x3.1:Int)) x6 i3)∧x6≤List.length (Vt.uwD b (Int.toNat n) (Int.toNat (↑x3.1:Int)))∧List.length (Vt.uwD b (Int.toNat n) (Int.toNat (↑x3.1:Int))) -
      x6 < List.length (Vt.uwD b (Int.toNat n) (Int.toNat (↑x3.1:Int))) - b14)∧(decide ((↑b14:Int) < v15)=false→∀ (v17:Int), v17=IntKind.i64.wrap ((↑x3.1:Int)+(1:Int))→∃ (x6:Nat × Nat × Nat × Nat), v17=(↑x6.1:Int)∧(b11=x6.2.1∧b12=x6.2.2.1∧0=0∧x3.1+1=x6.1∧b13=x6.2.2.2∧(Nat.beq x3.1 0&&decide (1=0))=Nat.beq x6.1 0)∧((b2=b2∧0=0∧false=false∧Int.toNat v7≤Int.toNat v7∧Int.toNat v7≤Int.toNat v7∧Int.toNat
      v7≤Int.toNat v7)∧∀ (i3:Nat), i3 < Int.toNat v7→Vt.uwF b (Int.toNat n) (Int.toNat (↑x3.1:Int)) b14 i3=Vt.uwF b (Int.toNat n) x6.1 0 i3)∧((b11=x6.2.1∧b12=x6.2.2.1∧(Nat.beq x3.1 0&&decide (1=0))=Nat.beq x6.1 0∧x6.1≤x3.1+1∧x6.1≤x6.2.2.2∧x6.2.2.2≤b13)∧∀ (i4:Nat), i4 < x6.1→(if i4 < x3.1 then (0:Int) else (-1:Int))=(0:Int))∧(x6.1≤Int.toNat
      n∧x6.1≤x6.2.2.2∧x6.2.2.2≤9223372036854775807∧(x6.1=0→x6.2.2.2=0))∧Int.toNat n - x6.1 < Int.toNat n - x3.1))∧((v14 != (0:Int))=false→∀ (b11:Nat), (x3.2.1=x3.2.1∧x3.2.2.1=x3.2.2.1)∧(Nat.beq x3.1 0=true→Nat.beq x3.1 0=true)∧0=0∧x3.1≤x3.1∧x3.2.2.2≤x3.2.2.2∧(x3.1+1)*8≤140737488355328∧x3.1+1≤9223372036854775807∧1≤1∧(b11=b11∧0=0)∧∀ (b12 b13 b14:Nat), x3.1+1≤b14→b14≤9223372036854775807→(Nat.beq x3.1
      0=true→1=0→b14=0)→∀ (v15:Int), v15=(↑(List.length s2):Int)→(∃ (x5:Nat), (0:Int)=(↑x5:Int)∧((b2=b2∧0=0∧false=false∧Int.toNat v7≤Int.toNat v7∧Int.toNat v7≤Int.toNat v7∧Int.toNat v7≤Int.toNat v7)∧∀ (i2:Nat), i2 < Int.toNat v7→Vt.uwF b (Int.toNat n) x3.1 0 i2=Vt.uwF b (Int.toNat n) (Int.toNat (↑x3.1:Int)) x5 i2)∧Nat.le x5 (List.length (Vt.uwD b (Int.toNat n) (Int.toNat (↑x3.1:Int)))))∧∀ (b15:Nat),
      b15≤List.length (Vt.uwD b (Int.toNat n) (Int.toNat (↑x3.1:Int)))→(decide ((↑b15:Int) < v15)=true→∀ (v16:Int), v16=IntKind.i64.wrap ((↑b15:Int)*n)→∀ (v17:Int), v17=IntKind.i64.wrap (v16+(↑x3.1:Int))→(0:Int)≤(↑b15:Int)∧(↑b15:Int) < (↑(List.length s2):Int)∧0≤v17∧v17 < (↑(Int.toNat v7):Int)∧(b2=b2∧0=0)∧Int.toNat v17 < Int.toNat v7∧∀ (v18:Int), v18=IntKind.i64.wrap ((↑b15:Int)+(1:Int))→∃ (x6:Nat),
      v18=(↑x6:Int)∧((b2=b2∧0=0∧false=false∧Int.toNat v7≤Int.toNat v7∧Int.toNat v7≤Int.toNat v7∧Int.toNat v7≤Int.toNat v7)∧∀ (i3:Nat), i3 < Int.toNat v7→(if i3=Int.toNat v17 then (↑(UInt8.toNat (List.getD s2 (Int.toNat (↑b15:Int)) 0)):Int) else Vt.uwF b (Int.toNat n) (Int.toNat (↑x3.1:Int)) b15 i3)=Vt.uwF b (Int.toNat n) (Int.toNat (↑x3.1:Int)) x6 i3)∧x6≤List.length (Vt.uwD b (Int.toNat n) (Int.toNat
      (↑x3.1:Int)))∧List.length (Vt.uwD b (Int.toNat n) (Int.toNat (↑x3.1:Int))) - x6 < List.length (Vt.uwD b (Int.toNat n) (Int.toNat (↑x3.1:Int))) - b15)∧(decide ((↑b15:Int) < v15)=false→∀ (v17:Int), v17=IntKind.i64.wrap ((↑x3.1:Int)+(1:Int))→∃ (x6:Nat × Nat × Nat × Nat), v17=(↑x6.1:Int)∧(b12=x6.2.1∧b13=x6.2.2.1∧0=0∧x3.1+1=x6.1∧b14=x6.2.2.2∧(Nat.beq x3.1 0&&decide (1=0))=Nat.beq x6.1
      0)∧((b2=b2∧0=0∧false=false∧Int.toNat v7≤Int.toNat v7∧Int.toNat v7≤Int.toNat v7∧Int.toNat v7≤Int.toNat v7)∧∀ (i3:Nat), i3 < Int.toNat v7→Vt.uwF b (Int.toNat n) (Int.toNat (↑x3.1:Int)) b15 i3=Vt.uwF b (Int.toNat n) x6.1 0 i3)∧((b12=x6.2.1∧b13=x6.2.2.1∧(Nat.beq x3.1 0&&decide (1=0))=Nat.beq x6.1 0∧x6.1≤x3.1+1∧x6.1≤x6.2.2.2∧x6.2.2.2≤b14)∧∀ (i4:Nat), i4 < x6.1→(if i4 < x3.1 then (0:Int) else
      v13)=(0:Int))∧(x6.1≤Int.toNat n∧x6.1≤x6.2.2.2∧x6.2.2.2≤9223372036854775807∧(x6.1=0→x6.2.2.2=0))∧Int.toNat n - x6.1 < Int.toNat n - x3.1)))∧True))))∧True)∧True))∧(decide ((↑x3.1:Int) < n)=false→x3.1≤x3.1∧(∀ (k1:Nat), k1 < x3.1→true=true)∧(x3.2.1=x3.2.1∧x3.2.2.1=x3.2.2.1)∧(-1:Int)=(-1:Int)∧(∀ (k2:Nat), k2 < x3.1→(0:Int)=(0:Int))∧∀ (t6:Bool), t6=false→(t6=true→∃ (x4:Nat × Nat × Nat), ([]=List.take
      (List.length b - 8*Int.toNat n) b∧(x3.2.1=x4.1∧x3.2.2.1=x4.2.1∧0=0∧x3.1=Int.toNat n∧x3.2.2.2=x4.2.2∧Nat.beq x3.1 0=false)∧(50:Int)=(0:Int))∧((x3.2.1=x4.1∧x3.2.2.1=x4.2.1∧Nat.beq x3.1 0=false∧Int.toNat n≤x3.1∧Int.toNat n≤x4.2.2∧x4.2.2≤x3.2.2.2)∧∀ (i2:Nat), i2 < Int.toNat n→(0:Int)=(0:Int))∧Int.toNat n≤x4.2.2∧x4.2.2≤9223372036854775807)∧(t6=false→Int.toNat v7≤Int.toNat v7∧(∀ (k3:Nat), k3 < Int.toNat
      v7→true=true)∧(b2=b2∧0=0)∧∀ (s1:List UInt8), s1=Byt.of (Vt.uwF b (Int.toNat n) x3.1 0) (Int.toNat v7)→∃ (x5:Nat × Nat × Nat), (s1=List.take (List.length b - 8*Int.toNat n) b∧(x3.2.1=x5.1∧x3.2.2.1=x5.2.1∧0=0∧x3.1=Int.toNat n∧x3.2.2.2=x5.2.2∧Nat.beq x3.1 0=false)∧(0:Int)=(0:Int))∧((x3.2.1=x5.1∧x3.2.2.1=x5.2.1∧Nat.beq x3.1 0=false∧Int.toNat n≤x3.1∧Int.toNat n≤x5.2.2∧x5.2.2≤x3.2.2.2)∧∀ (i3:Nat), i3 <
      Int.toNat n→(0:Int)=(0:Int))∧Int.toNat n≤x5.2.2∧x5.2.2≤9223372036854775807)))∧True)∧True)) (by kernel_rfl) ?_
  try simp only [eq_self, true_and, and_true, Nat.le_refl, implies_true, forall_const, Bool.false_eq_true, Bool.true_eq_false, reduceCtorEq, false_imp_iff, true_imp_iff, Int.toNat_zero, Int.toNat_natCast, Nat.zero_lt_one, Int.le_refl, allGet]
  intro t1 ht1 v1 h1 v2 h2 t2 ht2 v3 h3 v4 h4 t3 ht3 t4 ht4 t5 ht5
  have hb5 := uB_eq ht1 h1 h2 ht2 h3 h4 ht3 ht4 ht5
  rw [hb] at hb5
  refine ⟨fun h => (by rw [hb5] at h; cases h), fun h => ?_⟩
  obtain ⟨g1, g2, g3, g4⟩ := uB_false hb
  have hN : ((n.toNat : Nat) : Int) = n := Int.toNat_of_nonneg (by omega)
  generalize hNN : n.toNat = N at *
  intro v5 h5 v6 h6 v7 h7
  have e7 : v7 = ((b.length - 8 * N : Nat) : Int) := by
    rw [h7, h5, h6, w64_id (x := 8 * n) (by omega) (by omega), w64_id (by omega) (by omega)]
    omega
  generalize hM : b.length - 8 * N = M at *
  subst e7
  have hlD : (b.take M).length = M := by rw [List.length_take]; omega
  have hlP : (b.drop M).length = 8 * N := by rw [List.length_drop]; omega
  have hD : List.drop 0 (List.take ((M : Nat) : Int).toNat b) = b.take M := by rw [Int.toNat_natCast]; rfl
  have hP : List.drop ((M : Nat) : Int).toNat (List.take b.length b) = b.drop M := by rw [Int.toNat_natCast, List.take_length]
  refine ⟨by omega, by omega, by omega, by omega, by omega, by omega, fun x1 hx1 => ?_⟩
  rw [hD] at hx1
  subst hx1
  dsimp only
  rw [hlD]
  refine ⟨g1, g2, by omega, by omega, fun y1 hy1 x2 hx2 => ?_⟩
  rw [hP] at hx2
  subst hx2
  dsimp only
  rw [hlP, hNN]
  refine ⟨g1, g2, by omega, by omega, fun y2 hy2 => ⟨by omega, by omega, by omega, ⟨(0, 0, 0, 0), rfl, nil_eqv rfl rfl rfl, fun k hk => uwF_zero.symm, ⟨rfl, rfl, rfl⟩, Nat.zero_le _, Nat.le_refl _, by dsimp only; omega, fun _ => rfl⟩, ?_⟩⟩
  rintro ⟨j, a1, a2, cap⟩ ⟨j1, j2, j4, j3⟩
  dsimp only at j1 j2 j3 j4 ⊢
  refine ⟨fun hjn => ?_, fun hjn => ?_⟩
  · have hjn := of_decide_eq_true hjn
    have hjN : j < N := by omega
    have hA := partN_le M j N
    rw [partN_8 hjN]
    obtain ⟨A, hAe⟩ : ∃ A, partN M j N = A := ⟨_, rfl⟩
    simp only [hAe] at hA ⊢
    refine ⟨fun q => by have := of_decide_eq_true q; omega, fun _ => ⟨by omega, by omega, hjN, by omega, by omega, hjN, by omega, by omega, fun v8 hv8 v9 hv9 => ?_⟩⟩
    have e9 : v9 = (A : Int) := by rw [hv9, hv8, w64_id (by omega) (by omega)]; omega
    subst e9
    refine ⟨fun q => by have := of_decide_eq_true q; omega, fun _ => ⟨by decide, by decide, by omega, fun v10 hv10 v11 hv11 => ?_⟩⟩
    have e11 : v11 = ((A + 8 : Nat) : Int) := by rw [hv11, hv10, w64_id (by omega) (by omega)]; omega
    subst e11
    refine ⟨fun q => by have := of_decide_eq_true q; omega, fun _ => ⟨fun q => by have := of_decide_eq_true q; omega, fun _ => ⟨fun v12 hv12 v13 hv13 v14 hv14 v15 hv15 => ?_, fun x4 hx4 => ?_⟩⟩⟩
    · have e14 : v14 = 0 := by rw [hv14, hv12, hv13]; decide
      have e15 : v15 = ((A + 8 : Nat) : Int) := by rw [hv15, e14, w64_id (by omega) (by omega)]; omega
      subst e15
      refine ⟨fun hgt v16 hv16 => ?_, fun hgt => by have := of_decide_eq_false hgt; omega⟩
      have h16 : v16 = 0 := hv16
      subst h16
      refine ⟨Int.le_refl _, Int.le_refl _, by omega, by omega, by omega, by omega, fun c1 c2 q1 q2 _ v17 hv17 => ?_⟩
      have h17 : v17 = 0 := hv17
      subst h17
      have hd1 : decide (((A + 8 : Nat) : Int).toNat = 0) = decide (((A + 8 : Nat) : Int) ≤ 0) := by
        rw [decide_eq_false (show ¬ ((A + 8 : Nat) : Int).toNat = 0 by omega), decide_eq_false (show ¬ ((A + 8 : Nat) : Int) ≤ 0 by omega)]
      exact ⟨Int.le_refl _, by omega, ⟨(c1, 0, c2), ⟨rfl, rfl, rfl, rfl, hd1⟩, ⟨rfl, rfl, hd1, by omega, Nat.zero_le _, Nat.le_refl _⟩, by dsimp only; omega, q2, fun q => by omega⟩⟩
    · obtain ⟨f1, f2, f3⟩ := hx4
      refine ⟨by omega, by omega, fun q => q, by omega, by omega, hjN, fun b6 q1 q2 _ => ⟨by decide, by decide, by omega, fun q => q, by omega, by omega, hjN, fun b9 q3 q4 _ s1 hs1 => ?_⟩⟩
      have hs : s1 = uW b N j := by
        rw [hs1]
        unfold uW partL
        rw [hM, hlD, hlP, hAe, partN_8 hjN, ← bof_app, Nat.zero_add]
        refine bof_congr fun k hk => ?_
        simp
      refine ⟨by rw [hs]; exact hcw j hjN, fun s2 hs2 v13 hv13 v14 hv14 => ?_⟩
      rw [hs] at hs2
      have hs2 : s2 = uwD b N j := hs2
      have hlen := uwD_len (b := b) hjN (by omega)
      rw [hM, hAe] at hlen
      subst hs2
      refine ⟨fun hne => ?_, fun heq => ?_⟩
      · rw [hv14] at hne; exact absurd hne (by decide)
      · refine ⟨fun q => q, by omega, by omega, fun b11 b12 b13 q5 q6 v15 hv15 => ⟨⟨0, rfl, fun k hk => rfl, Nat.zero_le _⟩, fun p hp => ⟨fun hlt v16 hv16 v17 hv17 => ?_, fun hge v17 hv17 => ?_⟩⟩⟩
        · have hlt := of_decide_eq_true hlt
          have hpA : p < partN M j N := by omega
          have hpm : j + p * N < M := (partN_iff (by omega) p).1 hpA
          have hpI : (p : Int) * n = ((p * N : Nat) : Int) := by rw [← hN, Int.natCast_mul]
          have e16 : v16 = ((p * N : Nat) : Int) := by rw [hv16, hpI, w64_id (by omega) (by omega)]
          have e17 : v17 = ((p * N + j : Nat) : Int) := by rw [hv17, e16, w64_id (by omega) (by omega)]; omega
          subst e17
          rw [Int.toNat_natCast, Int.toNat_natCast]
          refine ⟨by omega, by omega, by omega, by omega, by omega, fun v18 hv18 => ⟨p + 1, by rw [hv18, w64_id (by omega) (by omega)]; omega, fun k hk => uwF_put hjN, by omega, by omega⟩⟩
        · have hge := of_decide_eq_false hge
          have ep : (uwD b N j).length ≤ p := by omega
          refine ⟨(j + 1, b11, b12, b13), by rw [hv17, w64_id (by omega) (by omega)]; dsimp only; omega, ⟨rfl, rfl, rfl, rfl, pt_beq _⟩, fun k hk => uwF_next ep, ⟨⟨rfl, rfl, pt_beq _, Nat.le_refl _, q5, Nat.le_refl _⟩, fun k hk => ?_⟩, ⟨by dsimp only; omega, q5, q6, fun q => by cases q⟩, by dsimp only; omega⟩
          dsimp only at hk
          by_cases q : k < j
          · rw [if_pos q]
          · rw [if_neg q]
            exact hv13
  · have hjn := of_decide_eq_false hjn
    obtain rfl : j = N := by omega
    have hz : Nat.beq j 0 = false := by rw [show j = (j - 1) + 1 by omega]; rfl
    refine fun t6 ht6 => ⟨fun q => (by rw [ht6] at q; cases q), fun q s1 hs1 => ⟨(a1, a2, cap), ⟨?_, ⟨rfl, rfl, rfl, rfl, hz⟩⟩, ⟨rfl, rfl, hz, Nat.le_refl _, j2, Nat.le_refl _⟩, j2, j4⟩⟩
    rw [hs1, Int.toNat_natCast, ← hM]
    refine Eq.trans (bof_congr fun k hk => uwF_end (by omega)) ?_
    rw [uw_all (by omega) (by omega)]
end Vt
