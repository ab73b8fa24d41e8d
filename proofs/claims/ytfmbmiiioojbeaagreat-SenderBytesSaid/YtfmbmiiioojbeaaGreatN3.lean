/-
  OWN WORK. Sender: the law's 'shown' (its calls run in place, with what is known).
-/
import Derived.Test.YtfmbmiiioojbeaaGreatN2
import Derived.Test.YtfmbmiiioojbeaaGreatLK
import Derived.Test.YtfmbmiiioojbeaaGreatLC
import Derived.WalkSpells
namespace Rc
open Go Go.Proofs Eng
set_option linter.unusedVariables false
set_option linter.unusedSimpArgs false
set_option maxRecDepth 100000
set_option maxHeartbeats 4000000

theorem minus_none : ∀ H : Hp, Hp.minus [] H = H
  | [] => rfl
  | e :: r => by show e :: Hp.minus [] r = _; rw [minus_none r]
/-! ### Get, where the unit is known -/
def getTab (tab : Nat → U) (args : List SV) (H : Hp) (nx : Nat) (K : SV → Hp → Nat → Prop) : Prop := match args with
  | [.str l] => allL [.p ((okU (tab nx) ∧ inR (tab nx).sum 0 4294967295) ∧ l = putU (tab nx))] (∀ y : RowY, (tab nx).gaps.length ≤ y.2.2 → y.2.2 ≤ 9223372036854775807 → ((tab nx).gaps.length = 0 → y.2.2 = 0) → K (.tup [uSV (tab nx) nx y, .int .i64 0]) (uRow (tab nx) nx y :: H) (nx + 1))
  | _ => False
theorem getTab_ok (tab : Nat → U) : EcOk Tryz.prog 44 (getTab tab) := by
  intro args H nx K hc hw
  refine get_ok args H nx K ?_ hw
  unfold getTab at hc
  split at hc
  · rename_i l
    obtain ⟨⟨h1, h2⟩, hK⟩ := hc
    have hg : goodB l := ⟨tab nx, h1, h2⟩
    have hu : unB l = tab nx := by rw [h2]; exact unB_putU h1.1 h1.2
    intro x' hx
    subst hx
    refine ⟨hg, fun y ⟨q1, q2, q3⟩ => ?_⟩
    dsimp only at q1 q3 ⊢
    rw [hu] at q1 q3 ⊢
    have := hK y q1 q2 q3
    show K _ (_ :: Hp.minus [] H) _
    rw [minus_none]
    exact this
  · exact hc.elim
/-- A checksum that is known. -/
def sumLit (c : Int) (args : List SV) (_ : Hp) : Option (List Ob × SV) := match args with
  | [.str l] => some ([.p (crc32 l = c)], .int .u32 c)
  | _ => none
theorem sumLit_ok (c : Int) : PcOk Tryz.prog 63 (sumLit c) := by
  intro args H ps v h hw hp hex
  unfold sumLit at h
  split at h
  · rename_i l
    simp only [Option.some.injEq, Prod.mk.injEq] at h
    obtain ⟨rfl, rfl⟩ := h
    obtain ⟨hp, _⟩ := hp
    have hp : crc32 l = c := hp
    subst hp
    exact sumP32_ok [.str l] H _ _ rfl hw trivial hex
  · cases h
/-! ### unit -/
def EUN : Env := E0.addP 12 putC
theorem EUN_ok : EnvOk Tryz.prog EUN := E0_ok.addP putR_ok
def unitC := pcOf (.cons pUnit .nil) (fun x => [(gO x.1).n ≤ 8796093022208, 0 ≤ x.1.2.2.2.2.1 ∧ x.1.2.2.2.2.1 ≤ 4294967295]) (fun x => .str (putU (uOf x.1)))
theorem unit_ok : PcOk Tryz.prog 30 unitC := by
  refine pcOf_run (fun _ => EUN_ok) Tryz.func30 rfl (by kernel_rfl) (fun x => by have := putU_len (uOf x.1); show (putU _).length ≤ _; omega) (fun _ => []) (fun _ => Nat.le_of_ble_eq_true rfl) (fun ⟨⟨k, nr, nm, sz, sm, of, da, wy, o, me, ⟨b, oo, n, c, z, f⟩, ()⟩, ()⟩ hp hw => ?_)
  refine vc_of (q :=
      ∀ (b1:Nat), (b1=b1∧0=0)∧n≤n∧(∀ (k1:Nat), k1 < n→true=true)∧(b=b∧oo=oo)∧n≤8796093022208∧((0:Int)≤sm∧sm≤(4294967295:Int))∧∀ (s1:List UInt8), s1=putU (uOf (k, nr, nm, sz, sm, of, da, wy, o, me, Eng.RowD.mk b oo n c z f, ()))→∀ (v1:Int), v1=putE (uOf (k, nr, nm, sz, sm, of, da, wy, o, me, Eng.RowD.mk b oo n c z f, ()))→s1=putU (uOf (k, nr, nm, sz, sm, of, da, wy, o, me, Eng.RowD.mk b oo n c z f, ()))) (by kernel_rfl) ?_
  try simp only [eq_self, true_and, and_true, Nat.le_refl, implies_true, forall_const, Bool.false_eq_true, Bool.true_eq_false, reduceCtorEq, false_imp_iff, true_imp_iff, Int.toNat_zero, Int.toNat_natCast, Nat.zero_lt_one, Int.le_refl, allGet]
  exact ⟨hp.1, hp.2.1, fun s1 h1 _ _ => h1⟩


/-- A map, a function against nil. -/
def eqMp : SV → SV → Option Bool
  | .map _ _ _, .val (.map none) => some false
  | .val (.map none), .val (.map none) => some true
  | _, _ => none
theorem eqMp_ok {P : Program} {t k e : TypeId} (ht : P.underlying t = some (.map k e)) : EqOk P t eqMp := by
  intro x y b h hx hy w u v
  unfold eqMp at h
  split at h
  · injection h with h
    subst h
    simp only [SV.den]
    refine ⟨?_, ?_⟩
    · rw [Sem.run_bind]
      simp [eqGuard, run_eql_map_nil w t k e _ ht]
    · rw [Sem.run_bind]
      simp [eqGuard, run_neq_map_nil w t k e _ ht]
  · injection h with h
    subst h
    simp only [SV.den]
    refine ⟨?_, ?_⟩
    · rw [Sem.run_bind]
      simp [eqGuard, run_eql_map_nil w t k e _ ht]
    · rw [Sem.run_bind]
      simp [eqGuard, run_neq_map_nil w t k e _ ht]
  · cases h
def eqFn : SV → SV → Option Bool
  | .fn _ _ _, .val .nilFunc => some false
  | .val .nilFunc, .val .nilFunc => some true
  | _, _ => none
theorem eqFn_ok {P : Program} {t : TypeId} {a : Array TypeId} {b : Array TypeId} {c : Bool} (ht : P.underlying t = some (.func a b c)) : EqOk P t eqFn := by
  intro x y b h hx hy w u v
  have d1 : ∀ d f p q, (Op.equalIn (d + 1) t (.func f p q) .nilFunc).run P w = .ok false w := fun d f p q => by simp [Op.equalIn, run_underlying ht]
  have d2 : ∀ d, (Op.equalIn (d + 1) t .nilFunc .nilFunc).run P w = .ok true w := fun d => by simp [Op.equalIn, run_underlying ht]
  have k1 : ∀ f p q, (Op.equal t (.func f p q) .nilFunc).run P w = .ok false w := d1 9999
  have k2 : (Op.equal t .nilFunc .nilFunc).run P w = .ok true w := d2 9999
  unfold eqFn at h
  split at h
  · injection h with h
    subst h
    simp only [SV.den]
    refine ⟨?_, ?_⟩
    · simp only [eqGuard, binOp, Sem.run_bind, k1]
      simp [k1]
    · simp only [eqGuard, binOp, Sem.run_bind, k1]
      simp [k1]
  · injection h with h
    subst h
    simp only [SV.den]
    refine ⟨?_, ?_⟩
    · simp only [eqGuard, binOp, Sem.run_bind, k2]
      simp [k2]
    · simp only [eqGuard, binOp, Sem.run_bind, k2]
      simp [k2]
  · cases h
/-- The length of 1 in bits. -/
def EBL : Env := (E0.inl 130 Tryz.f130 fun _ _ => [.raw 1, .det 2, .raw 4, .det 5, .raw 7, .det 8, .raw 10])
theorem EBL_ok : EnvOk Tryz.prog EBL := (E0_ok.inl _ Tryz.func130 rfl (by kernel_rfl))
def lenC := pcOf (.cons (.elt (.int .u64)) .nil) (fun x => [x.1 = 1]) (fun _ => .int .i64 1)
theorem len1_ok : PcOk Tryz.prog 80 lenC := by
  refine pcOf_run (fun _ => EBL_ok) Tryz.func80 rfl (by kernel_rfl) (fun _ => trivial) (fun _ => [.raw 2, .det 1]) (fun _ => Nat.le_of_ble_eq_true rfl) (fun ⟨x, ()⟩ hp hw => ?_)
  obtain ⟨hp, _⟩ := hp
  have hp : x = 1 := hp
  subst hp
  refine vc_of (q :=
      (0:Int)≤IntKind.u8.wrap (1:Int)∧IntKind.u8.wrap 1 < (↑(List.length (List.append (List.append [0, (1:UInt8), (2:UInt8), (2:UInt8), (3:UInt8), (3:UInt8), (3:UInt8), (3:UInt8), (4:UInt8), (4:UInt8), (4:UInt8), (4:UInt8), (4:UInt8), (4:UInt8), (4:UInt8), (4:UInt8), (5:UInt8), (5:UInt8), (5:UInt8), (5:UInt8), (5:UInt8), (5:UInt8), (5:UInt8), (5:UInt8), (5:UInt8), (5:UInt8), (5:UInt8), (5:UInt8),
      (5:UInt8), (5:UInt8), (5:UInt8), (5:UInt8), (6:UInt8), (6:UInt8), (6:UInt8), (6:UInt8), (6:UInt8), (6:UInt8), (6:UInt8), (6:UInt8), (6:UInt8), (6:UInt8), (6:UInt8), (6:UInt8), (6:UInt8), (6:UInt8), (6:UInt8), (6:UInt8), (6:UInt8), (6:UInt8), (6:UInt8), (6:UInt8), (6:UInt8), (6:UInt8), (6:UInt8), (6:UInt8), (6:UInt8), (6:UInt8), (6:UInt8), (6:UInt8), (6:UInt8), (6:UInt8), (6:UInt8), (6:UInt8)]
      [(7:UInt8), (7:UInt8), (7:UInt8), (7:UInt8), (7:UInt8), (7:UInt8), (7:UInt8), (7:UInt8), (7:UInt8), (7:UInt8), (7:UInt8), (7:UInt8), (7:UInt8), (7:UInt8), (7:UInt8), (7:UInt8), (7:UInt8), (7:UInt8), (7:UInt8), (7:UInt8), (7:UInt8), (7:UInt8), (7:UInt8), (7:UInt8), (7:UInt8), (7:UInt8), (7:UInt8), (7:UInt8), (7:UInt8), (7:UInt8), (7:UInt8), (7:UInt8), (7:UInt8), (7:UInt8), (7:UInt8), (7:UInt8),
      (7:UInt8), (7:UInt8), (7:UInt8), (7:UInt8), (7:UInt8), (7:UInt8), (7:UInt8), (7:UInt8), (7:UInt8), (7:UInt8), (7:UInt8), (7:UInt8), (7:UInt8), (7:UInt8), (7:UInt8), (7:UInt8), (7:UInt8), (7:UInt8), (7:UInt8), (7:UInt8), (7:UInt8), (7:UInt8), (7:UInt8), (7:UInt8), (7:UInt8), (7:UInt8), (7:UInt8), (7:UInt8)]) (List.append [(8:UInt8), (8:UInt8), (8:UInt8), (8:UInt8), (8:UInt8), (8:UInt8), (8:UInt8),
      (8:UInt8), (8:UInt8), (8:UInt8), (8:UInt8), (8:UInt8), (8:UInt8), (8:UInt8), (8:UInt8), (8:UInt8), (8:UInt8), (8:UInt8), (8:UInt8), (8:UInt8), (8:UInt8), (8:UInt8), (8:UInt8), (8:UInt8), (8:UInt8), (8:UInt8), (8:UInt8), (8:UInt8), (8:UInt8), (8:UInt8), (8:UInt8), (8:UInt8), (8:UInt8), (8:UInt8), (8:UInt8), (8:UInt8), (8:UInt8), (8:UInt8), (8:UInt8), (8:UInt8), (8:UInt8), (8:UInt8), (8:UInt8),
      (8:UInt8), (8:UInt8), (8:UInt8), (8:UInt8), (8:UInt8), (8:UInt8), (8:UInt8), (8:UInt8), (8:UInt8), (8:UInt8), (8:UInt8), (8:UInt8), (8:UInt8), (8:UInt8), (8:UInt8), (8:UInt8), (8:UInt8), (8:UInt8), (8:UInt8), (8:UInt8), (8:UInt8)] [(8:UInt8), (8:UInt8), (8:UInt8), (8:UInt8), (8:UInt8), (8:UInt8), (8:UInt8), (8:UInt8), (8:UInt8), (8:UInt8), (8:UInt8), (8:UInt8), (8:UInt8), (8:UInt8), (8:UInt8),
      (8:UInt8), (8:UInt8), (8:UInt8), (8:UInt8), (8:UInt8), (8:UInt8), (8:UInt8), (8:UInt8), (8:UInt8), (8:UInt8), (8:UInt8), (8:UInt8), (8:UInt8), (8:UInt8), (8:UInt8), (8:UInt8), (8:UInt8), (8:UInt8), (8:UInt8), (8:UInt8), (8:UInt8), (8:UInt8), (8:UInt8), (8:UInt8), (8:UInt8), (8:UInt8), (8:UInt8), (8:UInt8), (8:UInt8), (8:UInt8), (8:UInt8), (8:UInt8), (8:UInt8), (8:UInt8), (8:UInt8), (8:UInt8),
      (8:UInt8), (8:UInt8), (8:UInt8), (8:UInt8), (8:UInt8), (8:UInt8), (8:UInt8), (8:UInt8), (8:UInt8), (8:UInt8), (8:UInt8), (8:UInt8), (8:UInt8)]))):Int)∧IntKind.i64.wrap ((0:Int)+IntKind.i64.wrap (↑(UInt8.toNat (List.getD (List.append (List.append [0, (1:UInt8), (2:UInt8), (2:UInt8), (3:UInt8), (3:UInt8), (3:UInt8), (3:UInt8), (4:UInt8), (4:UInt8), (4:UInt8), (4:UInt8), (4:UInt8), (4:UInt8),
      (4:UInt8), (4:UInt8), (5:UInt8), (5:UInt8), (5:UInt8), (5:UInt8), (5:UInt8), (5:UInt8), (5:UInt8), (5:UInt8), (5:UInt8), (5:UInt8), (5:UInt8), (5:UInt8), (5:UInt8), (5:UInt8), (5:UInt8), (5:UInt8), (6:UInt8), (6:UInt8), (6:UInt8), (6:UInt8), (6:UInt8), (6:UInt8), (6:UInt8), (6:UInt8), (6:UInt8), (6:UInt8), (6:UInt8), (6:UInt8), (6:UInt8), (6:UInt8), (6:UInt8), (6:UInt8), (6:UInt8), (6:UInt8),
      (6:UInt8), (6:UInt8), (6:UInt8), (6:UInt8), (6:UInt8), (6:UInt8), (6:UInt8), (6:UInt8), (6:UInt8), (6:UInt8), (6:UInt8), (6:UInt8), (6:UInt8), (6:UInt8)] [(7:UInt8), (7:UInt8), (7:UInt8), (7:UInt8), (7:UInt8), (7:UInt8), (7:UInt8), (7:UInt8), (7:UInt8), (7:UInt8), (7:UInt8), (7:UInt8), (7:UInt8), (7:UInt8), (7:UInt8), (7:UInt8), (7:UInt8), (7:UInt8), (7:UInt8), (7:UInt8), (7:UInt8), (7:UInt8),
      (7:UInt8), (7:UInt8), (7:UInt8), (7:UInt8), (7:UInt8), (7:UInt8), (7:UInt8), (7:UInt8), (7:UInt8), (7:UInt8), (7:UInt8), (7:UInt8), (7:UInt8), (7:UInt8), (7:UInt8), (7:UInt8), (7:UInt8), (7:UInt8), (7:UInt8), (7:UInt8), (7:UInt8), (7:UInt8), (7:UInt8), (7:UInt8), (7:UInt8), (7:UInt8), (7:UInt8), (7:UInt8), (7:UInt8), (7:UInt8), (7:UInt8), (7:UInt8), (7:UInt8), (7:UInt8), (7:UInt8), (7:UInt8),
      (7:UInt8), (7:UInt8), (7:UInt8), (7:UInt8), (7:UInt8), (7:UInt8)]) (List.append [(8:UInt8), (8:UInt8), (8:UInt8), (8:UInt8), (8:UInt8), (8:UInt8), (8:UInt8), (8:UInt8), (8:UInt8), (8:UInt8), (8:UInt8), (8:UInt8), (8:UInt8), (8:UInt8), (8:UInt8), (8:UInt8), (8:UInt8), (8:UInt8), (8:UInt8), (8:UInt8), (8:UInt8), (8:UInt8), (8:UInt8), (8:UInt8), (8:UInt8), (8:UInt8), (8:UInt8), (8:UInt8), (8:UInt8),
      (8:UInt8), (8:UInt8), (8:UInt8), (8:UInt8), (8:UInt8), (8:UInt8), (8:UInt8), (8:UInt8), (8:UInt8), (8:UInt8), (8:UInt8), (8:UInt8), (8:UInt8), (8:UInt8), (8:UInt8), (8:UInt8), (8:UInt8), (8:UInt8), (8:UInt8), (8:UInt8), (8:UInt8), (8:UInt8), (8:UInt8), (8:UInt8), (8:UInt8), (8:UInt8), (8:UInt8), (8:UInt8), (8:UInt8), (8:UInt8), (8:UInt8), (8:UInt8), (8:UInt8), (8:UInt8), (8:UInt8)] [(8:UInt8),
      (8:UInt8), (8:UInt8), (8:UInt8), (8:UInt8), (8:UInt8), (8:UInt8), (8:UInt8), (8:UInt8), (8:UInt8), (8:UInt8), (8:UInt8), (8:UInt8), (8:UInt8), (8:UInt8), (8:UInt8), (8:UInt8), (8:UInt8), (8:UInt8), (8:UInt8), (8:UInt8), (8:UInt8), (8:UInt8), (8:UInt8), (8:UInt8), (8:UInt8), (8:UInt8), (8:UInt8), (8:UInt8), (8:UInt8), (8:UInt8), (8:UInt8), (8:UInt8), (8:UInt8), (8:UInt8), (8:UInt8), (8:UInt8),
      (8:UInt8), (8:UInt8), (8:UInt8), (8:UInt8), (8:UInt8), (8:UInt8), (8:UInt8), (8:UInt8), (8:UInt8), (8:UInt8), (8:UInt8), (8:UInt8), (8:UInt8), (8:UInt8), (8:UInt8), (8:UInt8), (8:UInt8), (8:UInt8), (8:UInt8), (8:UInt8), (8:UInt8), (8:UInt8), (8:UInt8), (8:UInt8), (8:UInt8), (8:UInt8), (8:UInt8)])) (Int.toNat (IntKind.u8.wrap (1:Int))) 0)):Int))=(1:Int)) (by kernel_rfl) ?_
  exact ⟨by decide, by decide, rfl⟩
def lenOne (args : List SV) (_ : Hp) : Option (List Ob × SV) := match args with
  | [.int .u64 x] => some ([.p (x = 1)], .int .i64 1)
  | _ => none
theorem lenOne_ok : PcOk Tryz.prog 80 lenOne := by
  intro args H ps v h hw hp hex
  unfold lenOne at h
  split at h
  · rename_i x
    simp only [Option.some.injEq, Prod.mk.injEq] at h
    obtain ⟨rfl, rfl⟩ := h
    obtain ⟨hp, _⟩ := hp
    have hp : x = 1 := hp
    subst hp
    exact len1_ok [.int .u64 1] H _ _ rfl hw ⟨rfl, trivial⟩ hex
  · cases h
/-! ### shown -/
def uGa : U := ⟨5, 7, [], 0, 0, 0, [], 0, 0, false, [(1, 9)]⟩
def uFi : U := ⟨4, 7, [], 0, 0, 0, [], 0, 0, false, []⟩
def tabU (n : Nat) : U := if Nat.ble n 28 then uGa else uFi
def keys8 (h : Int → Bool) : List Int := [0, 1, 2, 3, 4, 5, 6, 7].filter h
/-- All that is named in a region stays as it is; what is decided is decided. -/
def rds : Nat → List An
  | 0 => [.raw 0, .det 0, .sure 0]
  | n + 1 => .raw (n + 1) :: .det (n + 1) :: .sure (n + 1) :: rds n

def ESH0 : Env := ((((((((((((((((E0.addQ 24 eqPt).addQ 75 eqPt).addQ 66 eqMp).addQ 95 eqFn).addQ 29 eqSl).addQ 74 (eqStruct [.int .i64, .int .i64, .str, .str])).addQ 4 eqBool).addP 30 unitC).addE 44 (getTab tabU)).addP 63 (sumLit 891568578)).addP 34 putC).addP 32 cloneC).addP 76 sortN).addP 80 lenOne).addE 75 (keysK keys8)).addE 111 (valsK keys8))
theorem ESH0_ok : EnvOk Tryz.prog ESH0 := ((((((((((((((((E0_ok.addQ (eqPt_ok (by kernel_rfl))).addQ (eqPt_ok (by kernel_rfl))).addQ (eqMp_ok Tryz.underlying66)).addQ (eqFn_ok Tryz.underlying95)).addQ (eqSl_ok Tryz.underlying29)).addQ (eqStruct_ok (by kernel_rfl) (by kernel_rfl) (by kernel_rfl) (by kernel_rfl))).addQ (eqBool_ok (by kernel_rfl))).addP unit_ok).addE (getTab_ok tabU)).addP (sumLit_ok 891568578)).addP put_ok).addP clone_ok).addP sortN_ok).addP lenOne_ok).addE (keysK_ok keys8)).addE (valsK_ok keys8))

def ESH1 : Env := ESH0.inl 81 Tryz.f81 fun _ _ => rds 1
theorem ESH1_ok : EnvOk Tryz.prog ESH1 := ESH0_ok.inl _ Tryz.func81 rfl (by kernel_rfl)

def ESH2 : Env := ESH1.inl 54 Tryz.f54 fun _ _ => rds 13
theorem ESH2_ok : EnvOk Tryz.prog ESH2 := ESH1_ok.inl _ Tryz.func54 rfl (by kernel_rfl)

def ESH3 : Env := ESH2.inl 31 Tryz.f31 fun _ _ => rds 1
theorem ESH3_ok : EnvOk Tryz.prog ESH3 := ESH2_ok.inl _ Tryz.func31 rfl (by kernel_rfl)

def ESH4 : Env := ESH3.inl 7 Tryz.f7 fun _ _ => rds 3
theorem ESH4_ok : EnvOk Tryz.prog ESH4 := ESH3_ok.inl _ Tryz.func7 rfl (by kernel_rfl)

def ESH5 : Env := ESH4.inl 53 Tryz.f53 fun _ _ => rds 1
theorem ESH5_ok : EnvOk Tryz.prog ESH5 := ESH4_ok.inl _ Tryz.func53 rfl (by kernel_rfl)

def ESH6 : Env := ESH5.inl 121 Tryz.f121 fun _ _ => [.unroll 1 2] ++ (rds 6)
theorem ESH6_ok : EnvOk Tryz.prog ESH6 := ESH5_ok.inl _ Tryz.func121 rfl (by kernel_rfl)

def ESH7 : Env := ESH6.inl 79 Tryz.f79 fun _ _ => [.unroll 2 2] ++ (rds 30)
theorem ESH7_ok : EnvOk Tryz.prog ESH7 := ESH6_ok.inl _ Tryz.func79 rfl (by kernel_rfl)

def ESH8 : Env := ESH7.inl 52 Tryz.f52 fun _ _ => rds 1
theorem ESH8_ok : EnvOk Tryz.prog ESH8 := ESH7_ok.inl _ Tryz.func52 rfl (by kernel_rfl)

def ESH9 : Env := ESH8.inl 33 Tryz.f33 fun _ _ => [.unroll 3 3, .draw 7 (.take 0 (.take 1 (.take 2 (.take 3 (.take 4 (.take 5 (.take 6 (.take 7 (.take 8 (.take 9 .fin)))))))))) []] ++ (rds 11)
theorem ESH9_ok : EnvOk Tryz.prog ESH9 := ESH8_ok.inl _ Tryz.func33 rfl (by kernel_rfl)

def ESH10 : Env := ESH9.inl 8 Tryz.f8 fun _ _ => [.draw 10 (.take 0 (.take 1 (.take 2 (.take 3 (.take 4 (.take 5 (.take 6 (.take 7 (.take 8 (.take 9 (.br 10 (.take 11 .fin) .stop))))))))))) []] ++ ((rds 13).filter fun a => match a with | .det k => !(Nat.beq k 8) | _ => true)
theorem ESH10_ok : EnvOk Tryz.prog ESH10 := ESH9_ok.inl _ Tryz.func8 rfl (by kernel_rfl)

def ESH11 : Env := ESH10.inl 61 Tryz.f61 fun _ _ => rds 1
theorem ESH11_ok : EnvOk Tryz.prog ESH11 := ESH10_ok.inl _ Tryz.func61 rfl (by kernel_rfl)

def ESH12 : Env := ESH11.inl 153 Tryz.f153 fun _ _ => [.unroll 1 2] ++ (rds 6)
theorem ESH12_ok : EnvOk Tryz.prog ESH12 := ESH11_ok.inl _ Tryz.func153 rfl (by kernel_rfl)

def ESH13 : Env := ESH12.inl 135 Tryz.f135 fun _ _ => [.unroll 2 2] ++ (rds 30)
theorem ESH13_ok : EnvOk Tryz.prog ESH13 := ESH12_ok.inl _ Tryz.func135 rfl (by kernel_rfl)

def ESH14 : Env := ESH13.inl 112 Tryz.f112 fun _ _ => rds 1
theorem ESH14_ok : EnvOk Tryz.prog ESH14 := ESH13_ok.inl _ Tryz.func112 rfl (by kernel_rfl)

def ESH15 : Env := ESH14.inl 59 Tryz.f59 fun _ _ => rds 3
theorem ESH15_ok : EnvOk Tryz.prog ESH15 := ESH14_ok.inl _ Tryz.func59 rfl (by kernel_rfl)

def ESH16 : Env := ESH15.inl 60 Tryz.f60 fun _ _ => rds 1
theorem ESH16_ok : EnvOk Tryz.prog ESH16 := ESH15_ok.inl _ Tryz.func60 rfl (by kernel_rfl)

def ESH17 : Env := ESH16.inl 36 Tryz.f36 fun _ _ => rds 1
theorem ESH17_ok : EnvOk Tryz.prog ESH17 := ESH16_ok.inl _ Tryz.func36 rfl (by kernel_rfl)

def ESH18 : Env := ESH17.inl 62 Tryz.f62 fun _ _ => rds 2
theorem ESH18_ok : EnvOk Tryz.prog ESH18 := ESH17_ok.inl _ Tryz.func62 rfl (by kernel_rfl)

def ESH19 : Env := ESH18.inl 37 Tryz.f37 fun _ _ => [.draw 5 (.take 0 (.take 1 (.take 2 (.take 3 (.take 4 (.take 5 (.take 6 (.take 7 (.take 8 (.take 9 (.br 10 (.take 11 (.br 12 (.take 13 (.br 14 .fin .stop)) .stop)) .stop))))))))))) [6], .draw 10 (.take 0 (.take 1 (.take 2 (.take 3 (.take 4 (.take 5 (.take 6 (.take 7 (.take 8 (.take 9 (.take 10 (.br 11 (.take 12 (.br 13 (.take 14 (.br 15 .fin .stop)) .stop)) .stop)))))))))))) [6], .draw 13 (.take 0 (.take 1 (.take 2 (.take 3 (.take 4 (.take 5 (.take 6 (.take 7 (.take 8 (.take 9 (.take 10 (.take 11 (.take 12 (.take 13 (.take 14 (.br 15 (.take 16 (.br 17 (.take 18 (.br 19 (.take 20 (.br 21 .fin .stop)) .stop)) .stop)) .stop)))))))))))))))) [6]] ++ (rds 17)
theorem ESH19_ok : EnvOk Tryz.prog ESH19 := ESH18_ok.inl _ Tryz.func37 rfl (by kernel_rfl)

def ESH20 : Env := ESH19.inl 35 Tryz.f35 fun _ _ => rds 3
theorem ESH20_ok : EnvOk Tryz.prog ESH20 := ESH19_ok.inl _ Tryz.func35 rfl (by kernel_rfl)

def ESH21 : Env := ESH20.inl 9 Tryz.f9 fun _ _ => [.unroll 8 3] ++ (rds 15)
theorem ESH21_ok : EnvOk Tryz.prog ESH21 := ESH20_ok.inl _ Tryz.func9 rfl (by kernel_rfl)

def ESH22 : Env := ESH21.inl 137 Tryz.f137 fun _ _ => [.unroll 2 3] ++ (rds 7)
theorem ESH22_ok : EnvOk Tryz.prog ESH22 := ESH21_ok.inl _ Tryz.func137 rfl (by kernel_rfl)

def ESH23 : Env := ESH22.inl 117 Tryz.f117 fun _ _ => rds 1
theorem ESH23_ok : EnvOk Tryz.prog ESH23 := ESH22_ok.inl _ Tryz.func117 rfl (by kernel_rfl)

def ESH24 : Env := ESH23.inl 72 Tryz.f72 fun _ _ => [.draw 1 (.take 0 (.take 1 (.take 2 (.take 3 (.take 4 (.take 5 (.br 6 (.take 7 .fin) .stop))))))) [], .draw 2 (.take 0 (.take 1 (.take 2 (.take 3 (.take 5 (.take 6 (.br 4 (.br 7 (.br 8 (.take 9 (.take 10 (.br 11 .fin .stop))) .stop) .stop) (.br 7 (.br 4 (.br 8 (.take 9 (.take 10 (.br 11 .fin .stop))) .stop) .stop) .stop)))))))) [0], .draw 3 (.take 0 (.take 1 (.take 2 (.take 3 (.take 4 (.take 5 (.take 6 (.take 7 .fin)))))))) [], .draw 5 (.take 0 (.take 1 (.take 2 (.take 3 (.take 4 (.take 5 (.br 6 .fin .stop))))))) [100000]] ++ (rds 6)
theorem ESH24_ok : EnvOk Tryz.prog ESH24 := ESH23_ok.inl _ Tryz.func72 rfl (by kernel_rfl)

def ESH25 : Env := ESH24.inl 118 Tryz.f118 fun _ _ => [.draw 1 (.take 0 (.take 1 (.take 2 (.take 3 (.take 4 (.take 5 (.take 6 (.take 7 .fin)))))))) []] ++ (rds 5)
theorem ESH25_ok : EnvOk Tryz.prog ESH25 := ESH24_ok.inl _ Tryz.func118 rfl (by kernel_rfl)

def ESH26 : Env := ESH25.inl 73 Tryz.f73 fun _ _ => [.unroll 6 3, .draw 8 (.take 0 (.take 1 (.take 2 (.take 3 (.take 4 (.take 5 (.take 6 (.take 7 (.take 8 (.take 9 (.br 10 (.take 11 (.take 12 (.br 13 .fin .stop))) .stop))))))))))) [6]] ++ (rds 10)
theorem ESH26_ok : EnvOk Tryz.prog ESH26 := ESH25_ok.inl _ Tryz.func73 rfl (by kernel_rfl)

def ESH27 : Env := ESH26.inl 45 Tryz.f45 fun _ _ => rds 1
theorem ESH27_ok : EnvOk Tryz.prog ESH27 := ESH26_ok.inl _ Tryz.func45 rfl (by kernel_rfl)

def ESH28 : Env := ESH27.inl 13 Tryz.f13 fun _ _ => [.draw 6 (.take 1 (.take 2 (.br 0 (.br 3 (.take 4 .fin) .stop) .stop))) []] ++ (rds 9)
theorem ESH28_ok : EnvOk Tryz.prog ESH28 := ESH27_ok.inl _ Tryz.func13 rfl (by kernel_rfl)

def ESH29 : Env := ESH28.inl 47 Tryz.f47 fun _ _ => rds 1
theorem ESH29_ok : EnvOk Tryz.prog ESH29 := ESH28_ok.inl _ Tryz.func47 rfl (by kernel_rfl)

def ESH30 : Env := ESH29.inl 46 Tryz.f46 fun _ _ => rds 3
theorem ESH30_ok : EnvOk Tryz.prog ESH30 := ESH29_ok.inl _ Tryz.func46 rfl (by kernel_rfl)

def ESH31 : Env := ESH30.inl 15 Tryz.f15 fun _ _ => rds 3
theorem ESH31_ok : EnvOk Tryz.prog ESH31 := ESH30_ok.inl _ Tryz.func15 rfl (by kernel_rfl)

theorem few_ok {b : Nat} (h : ∃ l : List Int, l.Nodup ∧ (∀ x : Int, false = true ↔ x ∈ l) ∧ l.length = b) : ¬ ((b : Int) ≥ 16) := by
  obtain ⟨l, _, h2, h3⟩ := h
  cases l with
  | nil => have h3 : 0 = b := h3; omega
  | cons a r => have := (h2 a).2 (List.mem_cons_self ..); cases this
def shown := pcOf .nil (fun _ => []) (fun _ => .bool true)
theorem shown_ok : PcOk Tryz.prog 6 shown := by
  refine pcOf_run (fun _ => ESH31_ok) Tryz.func6 rfl (by kernel_rfl) (fun _ => trivial) (fun _ => .unroll 6 4 :: rds 15) (fun _ => Nat.le_of_ble_eq_true rfl) (fun x hp hw => ?_)
  refine vc_of (q :=
      ∀ (b1 b2:Nat), (false=false→b2=b2∧0=0)∧(b2=b2∧0=0)∧b1=b1∧0 < 1∧(b2=b2∧0=0)∧b1=b1∧0 < 1∧∀ (b3:Nat), (∃ (l:List Int), List.Nodup l∧(∀ (x:Int), false=true↔x ∈ l)∧List.length l=b3)→(decide ((↑b3:Int)≥(16:Int))=true→false=true)∧(decide ((↑b3:Int)≥(16:Int))=false→(b2=b2∧0=0)∧(b2=b2∧0=0)∧(b2=b2∧0=0)∧List.length [(102:UInt8)]≤281474976710656∧List.length [(97:UInt8), (98:UInt8),
      (99:UInt8)]≤281474976710656∧(∀ (b4:Nat), (b4=b4∧0=0)∧∀ (b5:Nat), true=true∧16≤140737488355328∧1≤9223372036854775807∧1≤1∧(b5=b5∧0=0)∧∀ (b6 b7:Nat), 1≤b7→b7≤9223372036854775807→(1=0→b7=0)→IntKind.u64.wrap (↑(1:Nat):Int)=(1:Int)∧(b4=b4∧0=0)∧(b2=b2∧0=0)∧b1=b1∧0 < 1∧(∀ (b8:Nat), b8 < 1→b8≠0→b1≠b1)∧(false=false→b2=b2∧0=0)∧(b2=b2∧0=0)∧b1=b1∧0 < 1∧∀ (b9:Nat), (false=false→b2=b2∧0=0)∧((if false=true then
      true else false)=false→b2=b2∧0=0)∧(b2=b2∧0=0)∧(b2=b2∧0=0)∧∀ (b10:Nat), ((∀ (v1:Int), (false||decide (v1=(7:Int)))=true↔v1=7)∧(0:Int)≤7∧(7:Int) < 65536)∧0=0∧b10=b10∧0=0∧0 < 1∧b1=b1∧0 < 1∧∀ (y1:Nat × Nat × Nat), 1≤y1.2.2→y1.2.2≤9223372036854775807→IntKind.u64.wrap (↑(1:Nat):Int)=(1:Int)∧(0:Int)≤0∧0 < (↑(1:Nat):Int)∧(y1.1=y1.1∧y1.2.1=y1.2.1)∧0 < 1∧∀ (b11:Nat), (b4=b4∧0=0)∧∀ (b12:Nat),
      (b12=b12∧0=0)∧(b4=b4∧0=0)∧(b4=b4∧0=0)∧(b4=b4∧0=0)∧(b4=b4∧0=0)∧((b12=b12∧0=0)∧((b12=b12∧0=0)∧((b12=b12∧0=0)∧(b12=b12∧0=0)∧(b11=b11∧0=0)∧(b11=b11∧0=0)∧∀ (b13:Nat), (b13=b13∧0=0)∧(b13=b13∧0=0)∧true=true∧0≤8796093022208∧((0:Int)≤0∧(0:Int)≤4294967295)∧((!true)=false→(0:Int)≤0)∧((!true)=false→0 < (↑(3:Nat):Int))∧((!true)=false→b9=b9∧0=0)∧((!true)=false→0 <
      3)∧((!true)=false→true=true)∧((!true)=false→0≤8796093022208)∧((!true)=false→((0:Int)≤if 0=0 then (0:Int) else if 0=1 then (0:Int) else (891568578:Int))∧(if 0=0 then (0:Int) else if 0=1 then (0:Int) else (891568578:Int))≤(4294967295:Int))∧(false=false→b2=b2∧0=0)∧((if false=true then true else false)=false→b2=b2∧0=0)∧(b2=b2∧0=0)∧(b2=b2∧0=0)∧∀ (b14:Nat), ((∀ (v2:Int), (false||decide
      (v2=(7:Int)))=true↔v2=7)∧(0:Int)≤7∧(7:Int) < 65536)∧0=0∧b14=b14∧0=0∧0 < 1∧b1=b1∧0 < 1∧∀ (y2:Nat × Nat × Nat), 1≤y2.2.2→y2.2.2≤9223372036854775807→IntKind.u64.wrap (↑(1:Nat):Int)=(1:Int)∧(0:Int)≤0∧0 < (↑(1:Nat):Int)∧(y2.1=y2.1∧y2.2.1=y2.2.1)∧0 < 1∧∀ (b15:Nat), (b4=b4∧0=0)∧∀ (b16:Nat), (b16=b16∧0=0)∧(b4=b4∧0=0)∧(b4=b4∧0=0)∧(b4=b4∧0=0)∧(0:Int)≤0∧0 < (↑(1:Nat):Int)∧(b6=b6∧0=0)∧0 < 1∧∀ (b17:Nat),
      (b17=b17∧0=0)∧(b17=b17∧0=0)∧(b17=b17∧0=0)∧(b4=b4∧0=0)∧(0:Int)≤0∧0 < (↑(1:Nat):Int)∧(b6=b6∧0=0)∧0 < 1∧(b4=b4∧0=0)∧0≤(↑(1:Nat):Int)∧(↑(1:Nat):Int)≤(↑b7:Int)∧(0:Int)≤1∧1≤(↑(1:Nat):Int)∧(b4=b4∧0=0)∧(b17=b17∧0=0)∧(b4=b4∧0=0)∧(b17=b17∧0=0)∧((0:Int)≤if IntKind.i64.wrap ((0:Int)+(160:Int)) < (↑(List.length [(97:UInt8), (98:UInt8), (99:UInt8)]):Int) then IntKind.i64.wrap ((0:Int)+(160:Int)) else
      (↑(List.length [(97:UInt8), (98:UInt8), (99:UInt8)]):Int))∧(if IntKind.i64.wrap ((0:Int)+(160:Int)) < (↑(List.length [(97:UInt8), (98:UInt8), (99:UInt8)]):Int) then IntKind.i64.wrap ((0:Int)+(160:Int)) else (↑(List.length [(97:UInt8), (98:UInt8), (99:UInt8)]):Int))≤(↑(List.length [(97:UInt8), (98:UInt8), (99:UInt8)]):Int)∧(0:Int)≤0∧((0:Int)≤if IntKind.i64.wrap ((0:Int)+(160:Int)) < (↑(List.length
      [(97:UInt8), (98:UInt8), (99:UInt8)]):Int) then IntKind.i64.wrap ((0:Int)+(160:Int)) else (↑(List.length [(97:UInt8), (98:UInt8), (99:UInt8)]):Int))∧((b16=b16∧0=0)∧((b16=b16∧0=0)∧((b16=b16∧0=0)∧(b16=b16∧0=0)∧(b15=b15∧0=0)∧(b15=b15∧0=0)∧∀ (b18:Nat), (b18=b18∧0=0)∧(b18=b18∧0=0)∧true=true∧0≤8796093022208∧((0:Int)≤0∧(0:Int)≤4294967295)∧((!true)=false→(0:Int)≤IntKind.i64.wrap
      ((0:Int)+(1:Int)))∧((!true)=false→IntKind.i64.wrap ((0:Int)+(1:Int)) < (↑(3:Nat):Int))∧((!true)=false→b9=b9∧0=0)∧((!true)=false→1 < 3)∧((!true)=false→true=true)∧((!true)=false→0≤8796093022208)∧((!true)=false→((0:Int)≤if 1=0 then (0:Int) else if 1=1 then (0:Int) else (891568578:Int))∧(if 1=0 then (0:Int) else if 1=1 then (0:Int) else (891568578:Int))≤(4294967295:Int))∧(false=false→b2=b2∧0=0)∧((if
      false=true then true else false)=false→b2=b2∧0=0)∧(b2=b2∧0=0)∧(b2=b2∧0=0)∧∀ (b19:Nat), ((∀ (v3:Int), (false||decide (v3=(7:Int)))=true↔v3=7)∧(0:Int)≤7∧(7:Int) < 65536)∧0=0∧b19=b19∧0=0∧0 < 1∧b1=b1∧0 < 1∧∀ (y3:Nat × Nat × Nat), 1≤y3.2.2→y3.2.2≤9223372036854775807→IntKind.u64.wrap (↑(1:Nat):Int)=(1:Int)∧(0:Int)≤0∧0 < (↑(1:Nat):Int)∧(y3.1=y3.1∧y3.2.1=y3.2.1)∧0 < 1∧∀ (b20:Nat), (b4=b4∧0=0)∧∀ (b21:Nat),
      (b21=b21∧0=0)∧(b4=b4∧0=0)∧(b4=b4∧0=0)∧(b4=b4∧0=0)∧(b4=b4∧0=0)∧(b4=b4∧0=0)∧(b4=b4∧0=0)∧(b4=b4∧0=0)∧crc32 [(97:UInt8), (98:UInt8), (99:UInt8)]=(891568578:Int)∧((b21=b21∧0=0)∧((b21=b21∧0=0)∧((b21=b21∧0=0)∧((b21=b21∧0=0)∧(b4=b4∧0=0)∧(b4=b4∧0=0)∧(b4=b4∧0=0)∧(b2=b2∧0=0)∧(b4=b4∧0=0)∧(b21=b21∧0=0)∧(b20=b20∧0=0)∧(b20=b20∧0=0)∧∀ (b22:Nat),
      (b22=b22∧0=0)∧(b22=b22∧0=0)∧true=true∧0≤8796093022208∧((0:Int)≤891568578∧(891568578:Int)≤4294967295)∧((!true)=false→(0:Int)≤IntKind.i64.wrap (IntKind.i64.wrap ((0:Int)+(1:Int))+(1:Int)))∧((!true)=false→IntKind.i64.wrap (IntKind.i64.wrap ((0:Int)+(1:Int))+(1:Int)) < (↑(3:Nat):Int))∧((!true)=false→b9=b9∧0=0)∧((!true)=false→2 <
      3)∧((!true)=false→true=true)∧((!true)=false→0≤8796093022208)∧((!true)=false→((0:Int)≤if 2=0 then (0:Int) else if 2=1 then (0:Int) else (891568578:Int))∧(if 2=0 then (0:Int) else if 2=1 then (0:Int) else (891568578:Int))≤(4294967295:Int))∧(false=false→b2=b2∧0=0)∧((if false=true then true else false)=false→b2=b2∧0=0)∧(b2=b2∧0=0)∧(b2=b2∧0=0)∧∀ (b23:Nat), ((∀ (v4:Int), (false||decide
      (v4=(7:Int)))=true↔v4=7)∧(0:Int)≤7∧(7:Int) < 65536)∧0=0∧b23=b23∧0=0∧0 < 1∧b1=b1∧0 < 1∧∀ (y4:Nat × Nat × Nat), 1≤y4.2.2→y4.2.2≤9223372036854775807→IntKind.u64.wrap (↑(1:Nat):Int)=(1:Int)∧(0:Int)≤0∧0 < (↑(1:Nat):Int)∧(y4.1=y4.1∧y4.2.1=y4.2.1)∧0 < 1∧∀ (b24:Nat), (b4=b4∧0=0)∧∀ (b25:Nat), (b25=b25∧0=0)∧(b4=b4∧0=0)∧(b4=b4∧0=0)∧(b4=b4∧0=0)∧(b24=b24∧0=0)∧(b24=b24∧0=0)∧∀ (b26:Nat), (b26=b26∧0=0)∧∀
      (b27:Nat), 1≤1∧(∀ (k1:Nat), k1 < 1→true=true)∧(b27=b27∧0=0)∧1≤8796093022208∧((0:Int)≤0∧(0:Int)≤4294967295)∧(false=false→b2=b2∧0=0)∧((okU (tabU 28)∧inR (0:Int) (0:Int) (4294967295:Int))∧putU (uOf ((5:Int), (7:Int), [], (0:Int), (0:Int), (0:Int), [], (0:Int), (0:Int), false, Eng.RowD.mk b27 0 1 1 false fun (k:Nat) ↦ ((1:Int), (9:Int), ()), ()))=putU (tabU 28))∧∀ (y5:Nat × Nat × Nat), List.length
      [((1:Int), (9:Int))]≤y5.2.2→y5.2.2≤9223372036854775807→(List.length [((1:Int), (9:Int))]=0→y5.2.2=0)→∀ (b28:Nat), (b28=b28∧0=0)∧(b28=b28∧0=0)∧(∀ (b29:Nat), b29=b29∧0 < 1∧(∀ (b30:Nat), b30 < 1→b30≠0→b29≠b29)∧b29=b29∧0 < 1∧(∀ (b31:Nat), b31 < 1→b31≠0→b29≠b29)∧b29=b29∧0 < 1∧(∀ (b32:Nat), b32 < 1→b32≠0→b29≠b29)∧(b29=b29∧0 < 1∧(b28=b28∧0=0)∧∀ (b33:Nat), (b33=b33∧0=0)∧∀ (b34:Nat),
      (b2=b2∧0=0)∧(b34=b34∧0=0)∧b1=b1∧0 < 1∧(b2=b2∧0=0)∧(b4=b4∧0=0)∧(b4=b4∧0=0)∧(((0:Int) != (0:Int))=false→b4=b4∧0=0)∧(b4=b4∧0=0)∧(false=false→b33=b33∧0=0)∧(b4=b4∧0=0)∧(b33=b33∧0=0)∧(0:Int)≤0∧0 < (↑(List.length [((1:Int), (9:Int))]):Int)∧(y5.1=y5.1∧y5.2.1=y5.2.1)∧0 < List.length [((1:Int), (9:Int))]∧∀ (b35:Nat), (b35=b35∧0=0)∧(b35=b35∧0=0)∧(b35=b35∧0=0)∧((b4=b4∧0=0)∧((b4=b4∧0=0)∧∀ (b36:Nat),
      true=true∧16≤140737488355328∧1≤9223372036854775807∧1≤1∧(b36=b36∧0=0)∧∀ (b37 b38:Nat), 1≤b38→b38≤9223372036854775807→(1=0→b38=0)→IntKind.u64.wrap (↑(1:Nat):Int)=(1:Int)∧(b4=b4∧0=0)∧(false=false→b2=b2∧0=0)∧((if false=true then true else false)=false→b2=b2∧0=0)∧(b2=b2∧0=0)∧(b2=b2∧0=0)∧∀ (b39:Nat), ((∀ (v5:Int), (false||decide (v5=(7:Int)))=true↔v5=7)∧(0:Int)≤7∧(7:Int) < 65536)∧0=0∧b39=b39∧0=0∧0 <
      1∧b1=b1∧0 < 1∧∀ (y6:Nat × Nat × Nat), 1≤y6.2.2→y6.2.2≤9223372036854775807→IntKind.u64.wrap (↑(1:Nat):Int)=(1:Int)∧(0:Int)≤0∧0 < (↑(1:Nat):Int)∧(y6.1=y6.1∧y6.2.1=y6.2.1)∧0 < 1∧∀ (b40:Nat), (b4=b4∧0=0)∧∀ (b41:Nat), (b41=b41∧0=0)∧(b4=b4∧0=0)∧(b4=b4∧0=0)∧(b4=b4∧0=0)∧(0:Int)≤0∧0 < (↑(1:Nat):Int)∧(b37=b37∧0=0)∧0 < 1∧∀ (b42:Nat), (b42=b42∧0=0)∧(b42=b42∧0=0)∧(b42=b42∧0=0)∧(b4=b4∧0=0)∧(0:Int)≤0∧0 <
      (↑(1:Nat):Int)∧(b37=b37∧0=0)∧0 < 1∧(b4=b4∧0=0)∧0≤(↑(1:Nat):Int)∧(↑(1:Nat):Int)≤(↑b38:Int)∧(0:Int)≤1∧1≤(↑(1:Nat):Int)∧(b4=b4∧0=0)∧(b42=b42∧0=0)∧(b4=b4∧0=0)∧(b42=b42∧0=0)∧((0:Int)≤if IntKind.i64.wrap ((1:Int)+(160:Int)) < if (↑(List.length [(97:UInt8), (98:UInt8), (99:UInt8)]):Int) < (9:Int) then (↑(List.length [(97:UInt8), (98:UInt8), (99:UInt8)]):Int) else (9:Int) then IntKind.i64.wrap
      ((1:Int)+(160:Int)) else if (↑(List.length [(97:UInt8), (98:UInt8), (99:UInt8)]):Int) < (9:Int) then (↑(List.length [(97:UInt8), (98:UInt8), (99:UInt8)]):Int) else (9:Int))∧(if IntKind.i64.wrap ((1:Int)+(160:Int)) < if (↑(List.length [(97:UInt8), (98:UInt8), (99:UInt8)]):Int) < (9:Int) then (↑(List.length [(97:UInt8), (98:UInt8), (99:UInt8)]):Int) else (9:Int) then IntKind.i64.wrap
      ((1:Int)+(160:Int)) else if (↑(List.length [(97:UInt8), (98:UInt8), (99:UInt8)]):Int) < (9:Int) then (↑(List.length [(97:UInt8), (98:UInt8), (99:UInt8)]):Int) else (9:Int))≤(↑(List.length [(97:UInt8), (98:UInt8), (99:UInt8)]):Int)∧(0:Int)≤1∧((1:Int)≤if IntKind.i64.wrap ((1:Int)+(160:Int)) < if (↑(List.length [(97:UInt8), (98:UInt8), (99:UInt8)]):Int) < (9:Int) then (↑(List.length [(97:UInt8),
      (98:UInt8), (99:UInt8)]):Int) else (9:Int) then IntKind.i64.wrap ((1:Int)+(160:Int)) else if (↑(List.length [(97:UInt8), (98:UInt8), (99:UInt8)]):Int) < (9:Int) then (↑(List.length [(97:UInt8), (98:UInt8), (99:UInt8)]):Int) else (9:Int))∧((b41=b41∧0=0)∧((b41=b41∧0=0)∧((b41=b41∧0=0)∧(b41=b41∧0=0)∧(b40=b40∧0=0)∧(b40=b40∧0=0)∧∀ (b43:Nat),
      (b43=b43∧0=0)∧(b43=b43∧0=0)∧true=true∧0≤8796093022208∧((0:Int)≤0∧(0:Int)≤4294967295)∧true=true∧0≤8796093022208∧((0:Int)≤0∧(0:Int)≤4294967295)∧(false=false→b2=b2∧0=0)∧((okU (tabU 42)∧inR (0:Int) (0:Int) (4294967295:Int))∧putU (uOf ((4:Int), (7:Int), [], (0:Int), (0:Int), (0:Int), [], (0:Int), (0:Int), false, Eng.RowD.mk 0 0 0 0 true fun (x:Nat) ↦ ((0:Int), (0:Int), ()), ()))=putU (tabU 42))∧∀
      (y7:Nat × Nat × Nat), List.length ([]:List (Int × Int))≤y7.2.2→y7.2.2≤9223372036854775807→(List.length ([]:List (Int × Int))=0→y7.2.2=0)→∀ (b44:Nat), (b44=b44∧0=0)∧(b44=b44∧0=0)∧(∀ (b45:Nat), b45=b45∧0 < 1∧(∀ (b46:Nat), b46 < 1→b46≠0→b45≠b45)∧b45=b45∧0 < 1∧(∀ (b47:Nat), b47 < 1→b47≠0→b45≠b45)∧b45=b45∧0 < 1∧(∀ (b48:Nat), b48 < 1→b48≠0→b45≠b45)∧(b45=b45∧0 < 1∧(b44=b44∧0=0)∧∀ (b49:Nat),
      (b2=b2∧0=0)∧(b49=b49∧0=0)∧((b49=b49∧0=0)∧((b2=b2∧0=0)∧(∀ (b50:Nat), (true=true∧8≤140737488355328∧1≤9223372036854775807∧1≤1∧(b50=b50∧0=0)∧∀ (b51 b52:Nat), 1≤b52→b52≤9223372036854775807→(1=0→b52=0)→((b2=b2∧0=0)∧(b2=b2∧0=0)∧(b49=b49∧0=0)∧b1=b1∧0 < 1∧(b2=b2∧0=0)∧(b49=b49∧0=0)∧(b1=b1∧0 < 1∧(∀ (b53:Nat), b53 < 1→b53≠0→b1≠b1)∧(b49=b49∧0=0)∧(b49=b49∧0=0)∧∀ (b54:Nat), (false=false→b2=b2∧0=0)∧((if false=true
      then true else false)=false→b2=b2∧0=0)∧(b2=b2∧0=0)∧(b2=b2∧0=0)∧(0:Int)≤0∧0 < (↑(1:Nat):Int)∧(b51=b51∧0=0)∧0 < 1∧true=true∧0≤8796093022208∧((0:Int)≤0∧(0:Int)≤4294967295)∧(b2=b2∧0=0)∧0≤(↑(1:Nat):Int)∧(↑(1:Nat):Int)≤(↑b52:Int)∧(0:Int)≤1∧1≤(↑(1:Nat):Int)∧∀ (b55:Nat),
      (b55=b55∧0=0)∧(false=true→false=true)∧0=0∧0≤0∧0≤0∧0≤140737488355328∧0≤9223372036854775807∧(match if b52=Int.toNat (1:Int) then 0 else 1 with | 0 => 0 | Nat.succ i => i+1)≤1∧(b51=b51∧0=0)∧∀ (b56 b57 b58:Nat), 0≤b58→b58≤9223372036854775807→(false=true→0=0→b58=0)→(b2=b2∧0=0)∧((!false)=true→true=true)∧((!false)=true→0≤8796093022208)∧((!false)=true→(0:Int)≤0∧(0:Int)≤4294967295)∧∀ (s1:List UInt8),
      s1=putU (uOf ((2:Int), (7:Int), [], (0:Int), (0:Int), (1:Int), [(98:UInt8), (99:UInt8)], (0:Int), (0:Int), false, Eng.RowD.mk 0 0 0 0 true fun (x:Nat) ↦ ((0:Int), (0:Int), ()), ()))→∀ (t1:Bool), (t1=if (!false)=true then putU (uOf ((2:Int), (7:Int), [], (0:Int), (0:Int), (1:Int), List.drop (Int.toNat (1:Int)) (List.take (Int.toNat (if IntKind.i64.wrap ((1:Int)+(160:Int)) < if (↑(List.length
      [(97:UInt8), (98:UInt8), (99:UInt8)]):Int) < (9:Int) then (↑(List.length [(97:UInt8), (98:UInt8), (99:UInt8)]):Int) else (9:Int) then IntKind.i64.wrap ((1:Int)+(160:Int)) else if (↑(List.length [(97:UInt8), (98:UInt8), (99:UInt8)]):Int) < (9:Int) then (↑(List.length [(97:UInt8), (98:UInt8), (99:UInt8)]):Int) else (9:Int))) [(97:UInt8), (98:UInt8), (99:UInt8)]), (0:Int), (0:Int), false, Eng.RowD.mk
      0 0 0 0 true fun (x:Nat) ↦ ((0:Int), (0:Int), ()), ()))==s1 else false)→∀ (t2:Bool), (t2=if t1=true then (0:Int)==(0:Int) else false)→∀ (v6:Int), v6=(↑(1:Nat):Int)→∀ (t3:Bool), (t3=if t2=true then v6==(1:Int) else false)→(t3=true→(0:Int)≤0)∧(t3=true→0 < (↑(1:Nat):Int))∧(t3=true→b54=b54∧0=0)∧(t3=true→0 < 1)∧∀ (t4:Bool), (t4=if t3=true then (7:Int)==(7:Int)&&((0:Int)==(0:Int)&&(([]:List
      UInt8)==[]&&(([]:List UInt8)==[]&&true))) else false)→(t4=true→true=true)∧(t4=true→0≤8796093022208)∧(t4=true→(0:Int)≤0∧(0:Int)≤4294967295)∧∀ (s2:List UInt8), s2=putU (uOf ((6:Int), (7:Int), [], (0:Int), (0:Int), (0:Int), [], (0:Int), (4:Int), false, Eng.RowD.mk 0 0 0 0 true fun (x:Nat) ↦ ((0:Int), (0:Int), ()), ()))→∀ (t5:Bool), (t5=if t4=true then putU (uOf ((6:Int), (7:Int), [], (0:Int), (0:Int),
      (0:Int), [], (0:Int), (4:Int), false, Eng.RowD.mk 0 0 0 0 true fun (x:Nat) ↦ ((0:Int), (0:Int), ()), ()))==s2 else false)→(t5=true→(false=false→b2=b2∧0=0)∧(b2=b2∧0=0)∧∀ (b59:Nat), (∀ (v7:Int), ((false||decide (v7=(7:Int)))&&!decide (v7=(7:Int)))=false)∧0=0∧b59=b59∧0=0∧0 < 1∧b1=b1∧0 < 1∧true=true∧∀ (v8:Int), v8=(↑(0:Nat):Int)→∀ (t6:Bool), (t6=if t5=true then v8==(0:Int) else
      false)→t6=true)∧((t5=true→False)→(t5=true→False)∧((t5=true→False)→(t5=true→False)∧((t5=true→False)→∀ (t6:Bool), (t6=if t5=true then false else false)→t6=true))))∧True)∧True)∧True)∧True)∧(∀ (b51:Nat), ((b2=b2∧0=0)∧(true=true∧8≤140737488355328∧1≤9223372036854775807∧1≤1∧(b51=b51∧0=0)∧∀ (b52 b53:Nat), 1≤b53→b53≤9223372036854775807→(1=0→b53=0)→((b2=b2∧0=0)∧(b2=b2∧0=0)∧(b49=b49∧0=0)∧b1=b1∧0 <
      1∧(b2=b2∧0=0)∧(b49=b49∧0=0)∧(b1=b1∧0 < 1∧(∀ (b54:Nat), b54 < 1→b54≠0→b1≠b1)∧(b49=b49∧0=0)∧(b49=b49∧0=0)∧∀ (b55:Nat), (false=false→b2=b2∧0=0)∧((if false=true then true else false)=false→b2=b2∧0=0)∧(b2=b2∧0=0)∧(b2=b2∧0=0)∧(0:Int)≤0∧0 < (↑(1:Nat):Int)∧(b52=b52∧0=0)∧0 <
      1∧true=true∧0≤8796093022208∧((0:Int)≤0∧(0:Int)≤4294967295)∧(b2=b2∧0=0)∧0≤(↑(1:Nat):Int)∧(↑(1:Nat):Int)≤(↑b53:Int)∧(0:Int)≤1∧1≤(↑(1:Nat):Int)∧∀ (b56:Nat), (b56=b56∧0=0)∧(false=true→false=true)∧0=0∧0≤0∧0≤0∧0≤140737488355328∧0≤9223372036854775807∧(match if b53=Int.toNat (1:Int) then 0 else 1 with | 0 => 0 | Nat.succ i => i+1)≤1∧(b52=b52∧0=0)∧∀ (b57 b58 b59:Nat),
      0≤b59→b59≤9223372036854775807→(false=true→0=0→b59=0)→(b2=b2∧0=0)∧((!false)=true→true=true)∧((!false)=true→0≤8796093022208)∧((!false)=true→(0:Int)≤0∧(0:Int)≤4294967295)∧∀ (s1:List UInt8), s1=putU (uOf ((2:Int), (7:Int), [], (0:Int), (0:Int), (1:Int), [(98:UInt8), (99:UInt8)], (0:Int), (0:Int), false, Eng.RowD.mk 0 0 0 0 true fun (x:Nat) ↦ ((0:Int), (0:Int), ()), ()))→∀ (t1:Bool), (t1=if
      (!false)=true then putU (uOf ((2:Int), (7:Int), [], (0:Int), (0:Int), (1:Int), List.drop (Int.toNat (1:Int)) (List.take (Int.toNat (if IntKind.i64.wrap ((1:Int)+(160:Int)) < if (↑(List.length [(97:UInt8), (98:UInt8), (99:UInt8)]):Int) < (9:Int) then (↑(List.length [(97:UInt8), (98:UInt8), (99:UInt8)]):Int) else (9:Int) then IntKind.i64.wrap ((1:Int)+(160:Int)) else if (↑(List.length [(97:UInt8),
      (98:UInt8), (99:UInt8)]):Int) < (9:Int) then (↑(List.length [(97:UInt8), (98:UInt8), (99:UInt8)]):Int) else (9:Int))) [(97:UInt8), (98:UInt8), (99:UInt8)]), (0:Int), (0:Int), false, Eng.RowD.mk 0 0 0 0 true fun (x:Nat) ↦ ((0:Int), (0:Int), ()), ()))==s1 else false)→∀ (t2:Bool), (t2=if t1=true then (0:Int)==(0:Int) else false)→∀ (v6:Int), v6=(↑(1:Nat):Int)→∀ (t3:Bool), (t3=if t2=true then
      v6==(1:Int) else false)→(t3=true→(0:Int)≤0)∧(t3=true→0 < (↑(1:Nat):Int))∧(t3=true→b55=b55∧0=0)∧(t3=true→0 < 1)∧∀ (t4:Bool), (t4=if t3=true then (7:Int)==(7:Int)&&((0:Int)==(0:Int)&&(([]:List UInt8)==[]&&(([]:List UInt8)==[]&&true))) else false)→(t4=true→true=true)∧(t4=true→0≤8796093022208)∧(t4=true→(0:Int)≤0∧(0:Int)≤4294967295)∧∀ (s2:List UInt8), s2=putU (uOf ((6:Int), (7:Int), [], (0:Int),
      (0:Int), (0:Int), [], (0:Int), (4:Int), false, Eng.RowD.mk 0 0 0 0 true fun (x:Nat) ↦ ((0:Int), (0:Int), ()), ()))→∀ (t5:Bool), (t5=if t4=true then putU (uOf ((6:Int), (7:Int), [], (0:Int), (0:Int), (0:Int), [], (0:Int), (4:Int), false, Eng.RowD.mk 0 0 0 0 true fun (x:Nat) ↦ ((0:Int), (0:Int), ()), ()))==s2 else false)→(t5=true→(false=false→b2=b2∧0=0)∧(b2=b2∧0=0)∧∀ (b60:Nat), (∀ (v7:Int),
      ((false||decide (v7=(7:Int)))&&!decide (v7=(7:Int)))=false)∧0=0∧b60=b60∧0=0∧0 < 1∧b1=b1∧0 < 1∧true=true∧∀ (v8:Int), v8=(↑(0:Nat):Int)→∀ (t6:Bool), (t6=if t5=true then v8==(0:Int) else false)→t6=true)∧((t5=true→False)→(t5=true→False)∧((t5=true→False)→(t5=true→False)∧((t5=true→False)→∀ (t6:Bool), (t6=if t5=true then false else
      false)→t6=true))))∧True)∧True)∧True)∧True)∧True)∧True)∧True)∧True)∧True)∧True)∧True)∧True)∧True)∧True)∧True)∧True)∧True)∧True)∧True)∧True)∧True)∧True)∧True)∧True)∧True)∧True)) (by kernel_rfl) ?_
  have hk : (∀ v1 : Int, (false || decide (v1 = 7)) = true ↔ v1 = 7) ∧ (0:Int) ≤ 7 ∧ (7:Int) < 65536 := ⟨by simp, by decide, by decide⟩
  have hm : ∀ b : Nat, (match (if b = 1 then 0 else 1 : Nat) with | 0 => 0 | i + 1 => i + 1) ≤ 1 := fun b => by by_cases q : b = 1 <;> simp [q]
  repeat' (first | with_reducible exact rfl | exact trivial | with_reducible exact hk | refine And.intro ?_ ?_ | intro _)
  all_goals (first | omega | decide | skip)
  all_goals (first
    | exact absurd (of_decide_eq_true ‹_›) (few_ok ‹_›)
    | exact congrArg putU rfl
    | exact hm _
    | (simp; done)
    | (rename_i n1 q; exact n1 q)
    | (rename_i h5 b v8 ev8 t6 e6; rw [e6, h5, if_pos rfl, ev8]; rfl)
    | skip)
  all_goals (
    rename_i s1 f1 t1 e1 t2 e2 v6 ev t3 e3 t4 e4 s2 f2 t5 e5 n1 n2 n3 t6 e6
    refine absurd ?_ n1
    have a1 : t1 = true := by rw [e1, f1]; exact beq_iff_eq.2 (by kernel_rfl)
    have a2 : t2 = true := by rw [e2, a1]; rfl
    have a3 : t3 = true := by rw [e3, a2, if_pos rfl, ev]; rfl
    have a4 : t4 = true := by rw [e4, a3]; rfl
    rw [e5, a4, if_pos rfl, f2]; exact beq_iff_eq.2 rfl)
end Rc
