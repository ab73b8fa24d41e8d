/-
  OWN WORK. Receiver: the law's 'shown' (its calls run in place, with what is known).
-/
import Derived.Test.YtjhcndahjhkahaaGreatLN
import Derived.Test.YtjhcndahjhkahaaGreatLJ
namespace Rc
open Go Go.Proofs Eng
set_option linter.unusedVariables false
set_option linter.unusedSimpArgs false
set_option maxRecDepth 100000
set_option maxHeartbeats 4000000

theorem minus_none : ∀ H : Hp, Hp.minus [] H = H
  | [] => rfl
  | e :: r => by show e :: Hp.minus [] r = _; rw [minus_none r]
/-! ### Get, where the unit is known -/
def getTab (tab : Nat → U) (args : List SV) (H : Hp) (nx : Nat) (K : SV → Hp → Nat → Prop) : Prop := match args with
  | [.str l] => allL [.p ((okU (tab nx) ∧ inR (tab nx).sum 0 4294967295) ∧ l = putU (tab nx))] (∀ y : RowY, (tab nx).gaps.length ≤ y.2.2 → y.2.2 ≤ 9223372036854775807 → ((tab nx).gaps.length = 0 → y.2.2 = 0) → K (.tup [uSV (tab nx) nx y, .int .i64 0]) (uRow (tab nx) nx y :: H) (nx + 1))
  | _ => False
theorem getTab_ok (tab : Nat → U) : EcOk Tryz.prog 29 (getTab tab) := by
  intro args H nx K hc hw
  refine get_ok args H nx K ?_ hw
  unfold getTab at hc
  split at hc
  · rename_i l
    obtain ⟨⟨h1, h2⟩, hK⟩ := hc
    have hg : goodB l := ⟨tab nx, h1, h2⟩
    have hu : unB l = tab nx := by rw [h2]; exact unB_putU h1.1 h1.2
    intro x' hx
    subst hx
    refine ⟨hg, fun y ⟨q1, q2, q3⟩ => ?_⟩
    dsimp only at q1 q3 ⊢
    rw [hu] at q1 q3 ⊢
    have := hK y q1 q2 q3
    show K _ (_ :: Hp.minus [] H) _
    rw [minus_none]
    exact this
  · exact hc.elim
/-- A checksum that is known. -/
def sumLit (c : Int) (args : List SV) (_ : Hp) : Option (List Ob × SV) := match args with
  | [.str l] => some ([.p (crc32 l = c)], .int .u32 c)
  | _ => none
theorem sumLit_ok (c : Int) : PcOk Tryz.prog 96 (sumLit c) := by
  intro args H ps v h hw hp hex
  unfold sumLit at h
  split at h
  · rename_i l
    simp only [Option.some.injEq, Prod.mk.injEq] at h
    obtain ⟨rfl, rfl⟩ := h
    obtain ⟨hp, _⟩ := hp
    have hp : crc32 l = c := hp
    subst hp
    exact sumP32_ok [.str l] H _ _ rfl hw trivial hex
  · cases h
/-! ### unit -/
def EUN : Env := E0.addP 24 putC
theorem EUN_ok : EnvOk Tryz.prog EUN := E0_ok.addP putR_ok
def unitC := pcOf (.cons pUnit .nil) (fun x => [(gO x.1).n ≤ 4294967296, 0 ≤ x.1.2.2.2.2.1 ∧ x.1.2.2.2.2.1 ≤ 4294967295]) (fun x => .str (putU (uOf x.1)))
theorem unit_ok : PcOk Tryz.prog 22 unitC := by
  refine pcOf_run (fun _ => EUN_ok) Tryz.func22 rfl (by kernel_rfl) (fun x => by have := putU_len (uOf x.1); show (putU _).length ≤ _; omega) (fun _ => []) (fun _ => Nat.le_of_ble_eq_true rfl) (fun ⟨⟨k, nr, nm, sz, sm, of, da, wy, o, me, ⟨b, oo, n, c, z, f⟩, ()⟩, ()⟩ hp hw => ?_)
  refine vc_of (q :=
      ∀ (b1:Nat), (b1=b1∧0=0)∧n≤n∧(∀ (k1:Nat), k1 < n→true=true)∧(b=b∧oo=oo)∧n≤4294967296∧((0:Int)≤sm∧sm≤(4294967295:Int))∧∀ (s1:List UInt8), s1=putU (uOf (k, nr, nm, sz, sm, of, da, wy, o, me, Eng.RowD.mk b oo n c z f, ()))→∀ (v1:Int), v1=putE (uOf (k, nr, nm, sz, sm, of, da, wy, o, me, Eng.RowD.mk b oo n c z f, ()))→s1=putU (uOf (k, nr, nm, sz, sm, of, da, wy, o, me, Eng.RowD.mk b oo n c z f, ()))) (by kernel_rfl) ?_
  try simp only [eq_self, true_and, and_true, Nat.le_refl, implies_true, forall_const, Bool.false_eq_true, Bool.true_eq_false, reduceCtorEq, false_imp_iff, true_imp_iff, Int.toNat_zero, Int.toNat_natCast, Nat.zero_lt_one, Int.le_refl, allGet]
  exact ⟨hp.1, hp.2.1, fun s1 h1 _ _ => h1⟩
/-! ### shown -/
theorem abc_intro {f : Nat → Int} {Q : List UInt8 → Prop} (h : Byt.of f 3 = [97, 98, 99]) (k : Q [97, 98, 99]) : ∀ s : List UInt8, s = Byt.of f 3 → Q s := fun s e => by rw [e, h]; exact k
theorem abc_crc {f : Nat → Int} (h : Byt.of f 3 = [97, 98, 99]) : crc32 (Byt.of f 3) = 891568578 := by rw [h]; kernel_rfl
def uD1 : U := ⟨2, 7, [], 0, 0, 2, [99], 0, 0, false, []⟩
def uEn : U := ⟨3, 7, [], 3, 891568578, 0, [], 0, 0, false, []⟩
def uMe : U := ⟨1, 7, [102], 3, 0, 0, [], 0, 0, false, []⟩
def uD2 : U := ⟨2, 7, [], 0, 0, 0, [97, 98, 88], 0, 0, false, []⟩
def uAc : U := ⟨6, 7, [], 0, 0, 0, [], 0, 4, false, []⟩
def tabU (n : Nat) : U := if n = 1 then uD1 else if n = 16 then uEn else if n = 36 then uMe else if n = 43 then uD2 else uAc
/-- The keys below 8. -/
def keys8 (h : Int → Bool) : List Int := [0, 1, 2, 3, 4, 5, 6, 7].filter h
/-- All that is named in a region stays as it is; what is decided is decided. -/
def rds : Nat → List An
  | 0 => [.raw 0, .det 0, .sure 0]
  | n + 1 => .raw (n + 1) :: .det (n + 1) :: .sure (n + 1) :: rds n
/-- The tag of a transaction's text: where there is none, the next one. -/
def textTag (a : List SV) (H : Hp) : Nat := match a with
  | .ptr g _ _ _ :: _ => match H.find g with
    | some e => match nav (e.get 0) [.fld 8 8] with
      | some (_, .slice t _ _ _ _ _ _ _ _) => match Nat.beq t 999999 with
        | true => (match H with
          | e :: _ => e.g + 1
          | [] => 0)
        | false => t
      | _ => 0
    | none => 0
  | _ => 0

def ptrTag : SV → Nat
  | .ptr g _ _ _ => g
  | _ => 0
def oldSet (v u : SV) : SV := match v with
  | .agg l => .agg (setNth l 4 u)
  | v => v
/-- What stands behind the append to what is remembered. -/
def joinCl (fr : Fr) (H : Hp) : LA := ⟨4, Nat × Nat × Nat × Nat, [0], fun _ => [slotV fr 0], [ptrTag (slotV fr 0), 203201],
  fun x => [{ entG H (ptrTag (slotV fr 0)) with get := fun _ => oldSet ((entG H (ptrTag (slotV fr 0))).get 0) (.slice 200 x.1 x.2.1 [] 1 0 1 x.2.2.1 false) },
    ⟨200, x.1, x.2.1, 1, 1, fun _ => .ptr 201 x.2.2.2 0 [.elt 0 15], true, false, x.2.2.1, 76, false, none⟩,
    ⟨201, x.2.2.2, 0, 15, 1, fun _ => .agg [.int .i64 7, .int .i64 0, .bool false, .bool false, .str [], .int .i64 0, .int .i64 0, .int .u32 0, nilSlice, .val (.map none), .int .i64 0, .int .i64 0, .int .i64 0, .int .i64 0, .int .i64 0], true, true, 1, 82, false, none⟩],
  fun x => 1 ≤ x.2.2.1 ∧ x.2.2.1 ≤ 9223372036854775807, fun _ => 0⟩
/-- The keys, where they are known. -/
def startsK (tab : (Int → Bool) → List Int) (args : List SV) (H : Hp) (nx : Nat) (K : SV → Hp → Nat → Prop) : Prop := match args with
  | [v] => match mapArg v H with
    | some (ps, h, gt) => allL (.p (Rising (tab h) ∧ (∀ x, h x = true ↔ x ∈ tab h) ∧ ∀ x, x ∈ tab h → 0 ≤ x ∧ x < 65536) :: ps) (∀ y : RowK, capK (tab h) y → K (slK nx (tab h) y) (rowK nx (tab h) y :: H) (nx + 1))
    | none => False
  | _ => False
theorem startsK_ok (tab : (Int → Bool) → List Int) : EcOk Tryz.prog 56 (startsK tab) := by
  intro args H nx K hc hw
  refine starts_ok args H nx K ?_ hw
  unfold startsK at hc
  unfold startsT
  split at hc
  · rename_i v
    split at hc
    · rename_i ps h gt hm
      rw [allL_iff] at hc
      obtain ⟨⟨⟨p0, p1, p3⟩, p2⟩, hK⟩ := hc
      simp only [hm]
      rw [allL_iff]
      refine ⟨⟨fun x hx => p3 x ((p1 x).1 hx), p2⟩, fun l y q1 q2 q3 => ?_⟩
      have e : l = tab h := rising_eq q1 p0 fun x => (q2 x).symm.trans (p1 x)
      subst e
      exact hK y q3
    · exact hc.elim
  · exact hc.elim

def ESH0 : Env := ((((((((((E0.addQ 24 eqPt).addQ 76 eqPt).addQ 46 (eqStruct [.int .i64, .int .i64])).addQ 43 (eqStruct [.int .i64, .int .i64, .str, .str])).addQ 4 eqBool).addP 22 unitC).addE 29 (getTab tabU)).addP 96 (sumLit 891568578)).addP 36 putC).addP 40 sortN).addE 56 (startsK keys8)
theorem ESH0_ok : EnvOk Tryz.prog ESH0 := ((((((((((E0_ok.addQ (eqPt_ok (by kernel_rfl))).addQ (eqPt_ok (by kernel_rfl))).addQ (eqStruct_ok (by kernel_rfl) (by kernel_rfl) (by kernel_rfl) (by kernel_rfl))).addQ (eqStruct_ok (by kernel_rfl) (by kernel_rfl) (by kernel_rfl) (by kernel_rfl))).addQ (eqBool_ok (by kernel_rfl))).addP unit_ok).addE (getTab_ok tabU)).addP (sumLit_ok 891568578)).addP put_ok).addP sortN_ok).addE (startsK_ok keys8)

def ESH1 : Env := ESH0.inl 28 Tryz.f28 fun _ _ => rds 1
theorem ESH1_ok : EnvOk Tryz.prog ESH1 := ESH0_ok.inl _ Tryz.func28 rfl (by kernel_rfl)

def ESH2 : Env := ESH1.inl 7 Tryz.f7 fun _ _ => rds 3
theorem ESH2_ok : EnvOk Tryz.prog ESH2 := ESH1_ok.inl _ Tryz.func7 rfl (by kernel_rfl)

def ESH3 : Env := ESH2.inl 52 Tryz.f52 fun _ _ => rds 1
theorem ESH3_ok : EnvOk Tryz.prog ESH3 := ESH2_ok.inl _ Tryz.func52 rfl (by kernel_rfl)

def ESH4 : Env := ESH3.inl 51 Tryz.f51 fun _ _ => [.unroll 2 3] ++ (rds 7)
theorem ESH4_ok : EnvOk Tryz.prog ESH4 := ESH3_ok.inl _ Tryz.func51 rfl (by kernel_rfl)

def ESH5 : Env := ESH4.inl 30 Tryz.f30 fun _ _ => rds 4
theorem ESH5_ok : EnvOk Tryz.prog ESH5 := ESH4_ok.inl _ Tryz.func30 rfl (by kernel_rfl)

def ESH6 : Env := ESH5.inl 32 Tryz.f32 fun _ _ => rds 0
theorem ESH6_ok : EnvOk Tryz.prog ESH6 := ESH5_ok.inl _ Tryz.func32 rfl (by kernel_rfl)

def ESH7 : Env := ESH6.inl 54 Tryz.f54 fun a H => [.unroll 7 3, .draw 12 (.take 0 (.take 1 (.take 2 (.take 3 (.take 4 (.take 5 (.take 6 (.take 7 (.take 8 (.take 9 (.take 10 (.take 11 (.br 12 .fin .stop))))))))))))) [100000 + textTag a H], .draw 18 (.take 0 (.take 1 (.take 2 (.take 3 (.take 4 (.take 5 (.take 6 (.take 7 (.take 8 (.take 9 (.take 10 (.take 11 (.br 12 .fin .stop))))))))))))) [100000 + textTag a H]] ++ (rds 19)
theorem ESH7_ok : EnvOk Tryz.prog ESH7 := ESH6_ok.inl _ Tryz.func54 rfl (by kernel_rfl)

def ESH8 : Env := ESH7.inl 34 Tryz.f34 fun _ _ => [.unroll 7 3] ++ (rds 15)
theorem ESH8_ok : EnvOk Tryz.prog ESH8 := ESH7_ok.inl _ Tryz.func34 rfl (by kernel_rfl)

def ESH9 : Env := ESH8.inl 39 Tryz.f39 fun _ _ => [.draw 6 (.take 0 (.take 1 (.take 2 (.take 3 (.take 4 (.take 5 (.take 6 (.take 7 (.take 8 (.take 9 (.br 10 (.take 11 (.br 12 .fin .stop)) .stop))))))))))) [7]] ++ ((rds 7).filter fun a => match a with | .raw k => !(Nat.beq k 6) | _ => true)
theorem ESH9_ok : EnvOk Tryz.prog ESH9 := ESH8_ok.inl _ Tryz.func39 rfl (by kernel_rfl)

def ESH10 : Env := ESH9.inl 55 Tryz.f55 fun _ _ => rds 14
theorem ESH10_ok : EnvOk Tryz.prog ESH10 := ESH9_ok.inl _ Tryz.func55 rfl (by kernel_rfl)

def ESH11 : Env := ESH10.inl 33 Tryz.f33 fun _ _ => [.draw 4 (.take 0 (.take 1 (.take 2 (.take 3 (.take 4 (.take 5 (.take 6 (.take 7 (.take 8 (.br 9 (.take 10 (.take 11 (.br 12 (.take 13 (.take 14 (.br 15 .fin .stop))) .stop))) .stop)))))))))) [1], .draw 12 (.take 0 (.take 1 (.take 2 (.take 3 (.take 4 (.take 5 (.take 6 (.take 7 (.take 8 (.take 9 (.br 10 (.take 11 (.take 12 (.br 13 (.take 14 (.take 15 (.br 16 (.take 17 (.take 18 (.br 19 .fin .stop))) .stop))) .stop))) .stop))))))))))) [1]] ++ (rds 16)
theorem ESH11_ok : EnvOk Tryz.prog ESH11 := ESH10_ok.inl _ Tryz.func33 rfl (by kernel_rfl)

def ESH12 : Env := ESH11.inl 53 Tryz.f53 fun _ _ => [.draw 5 (.take 0 (.take 1 (.take 2 (.take 3 (.take 4 (.take 5 (.br 6 (.take 7 .fin) .stop))))))) [0]] ++ (rds 7)
theorem ESH12_ok : EnvOk Tryz.prog ESH12 := ESH11_ok.inl _ Tryz.func53 rfl (by kernel_rfl)

def ESH13 : Env := ESH12.inl 31 Tryz.f31 fun _ _ => [.draw 3 (.take 0 (.take 1 (.take 2 (.take 3 (.take 5 (.take 6 (.take 7 (.take 8 (.take 9 (.take 10 (.take 11 (.take 12 (.take 13 (.br 4 (.br 14 (.br 15 (.br 16 (.take 17 (.take 18 (.br 19 .fin .stop))) .stop) .stop) .stop) (.br 14 (.br 4 (.br 15 (.br 16 (.take 17 (.take 18 (.br 19 .fin .stop))) .stop) .stop) (.br 15 (.br 4 (.br 16 (.take 17 (.take 18 (.br 19 .fin .stop))) .stop) .stop) .stop)) .stop))))))))))))))) [0], .joinD 4 (fun fr H => joinCl fr H) 300] ++ (rds 5)
theorem ESH13_ok : EnvOk Tryz.prog ESH13 := ESH12_ok.inl _ Tryz.func31 rfl (by kernel_rfl)

def ESH14 : Env := ESH13.inl 10 Tryz.f10 fun _ _ => [.draw 6 (.take 0 (.take 1 (.take 2 (.take 3 (.take 4 (.take 5 (.br 6 (.take 7 (.take 8 (.take 9 (.take 10 (.take 11 .fin))))) .stop))))))) [], .draw 19 (.take 0 (.take 1 (.take 2 (.take 3 (.take 4 (.take 5 (.br 6 (.take 7 (.take 8 (.take 9 (.take 10 (.take 11 .fin))))) .stop))))))) []] ++ (rds 32)
theorem ESH14_ok : EnvOk Tryz.prog ESH14 := ESH13_ok.inl _ Tryz.func10 rfl (by kernel_rfl)

def ESH15 : Env := ESH14.inl 37 Tryz.f37 fun _ _ => [.draw 3 (.take 0 (.take 1 (.take 2 (.take 3 (.take 4 (.br 5 (.take 6 (.br 7 .fin .stop)) .stop)))))) [5], .draw 13 (.take 0 (.take 1 (.take 2 (.take 3 (.take 4 (.take 5 (.take 6 (.take 7 (.take 8 (.take 9 (.take 10 (.br 11 (.take 12 (.br 13 (.take 14 (.br 15 .fin .stop)) .stop)) .stop)))))))))))) [5]] ++ (rds 19)
theorem ESH15_ok : EnvOk Tryz.prog ESH15 := ESH14_ok.inl _ Tryz.func37 rfl (by kernel_rfl)

def ESH16 : Env := ESH15.inl 57 Tryz.f57 fun _ _ => rds 6
theorem ESH16_ok : EnvOk Tryz.prog ESH16 := ESH15_ok.inl _ Tryz.func57 rfl (by kernel_rfl)

def ESH17 : Env := ESH16.inl 35 Tryz.f35 fun _ _ => [.unroll 3 3, .unroll 11 3] ++ (rds 15)
theorem ESH17_ok : EnvOk Tryz.prog ESH17 := ESH16_ok.inl _ Tryz.func35 rfl (by kernel_rfl)

def ESH18 : Env := ESH17.inl 14 Tryz.f14 fun _ _ => [.unroll 4 3, .draw 3 (.take 0 (.take 1 (.take 2 (.take 3 (.take 4 (.take 5 (.take 6 (.take 7 (.take 11 (.br 8 (.br 9 (.take 10 .fin) .stop) .stop)))))))))) []] ++ (rds 10)
theorem ESH18_ok : EnvOk Tryz.prog ESH18 := ESH17_ok.inl _ Tryz.func14 rfl (by kernel_rfl)

def ESH19 : Env := ESH18.inl 11 Tryz.f11 fun _ _ => rds 6
theorem ESH19_ok : EnvOk Tryz.prog ESH19 := ESH18_ok.inl _ Tryz.func11 rfl (by kernel_rfl)

def ESH20 : Env := ESH19.inl 18 Tryz.f18 fun _ _ => [.unroll 5 3] ++ (rds 10)
theorem ESH20_ok : EnvOk Tryz.prog ESH20 := ESH19_ok.inl _ Tryz.func18 rfl (by kernel_rfl)

def shown := pcOf .nil (fun _ => []) (fun _ => .bool true)
theorem shown_ok : PcOk Tryz.prog 6 shown := by
  refine pcOf_run (fun _ => ESH20_ok) Tryz.func6 rfl (by kernel_rfl) (fun _ => trivial) (fun _ => [.raw 0, .raw 1, .raw 2, .sure 2, .det 3, .raw 4, .raw 5, .raw 6, .raw 7, .raw 8, .raw 9, .raw 10, .raw 11, .raw 12, .raw 13, .raw 14, .raw 15, .raw 16]) (fun _ => Nat.le_of_ble_eq_true rfl) (fun x hp hw => ?_)
  refine vc_of (q :=
      ∀ (b1:Nat), true=true∧0≤4294967296∧((0:Int)≤891568578∧(891568578:Int)≤4294967295)∧true=true∧0≤4294967296∧((0:Int)≤0∧(0:Int)≤4294967295)∧(false=false→b1=b1∧0=0)∧((okU (tabU 1)∧inR (0:Int) (0:Int) (4294967295:Int))∧putU (uOf ((2:Int), (7:Int), [], (0:Int), (0:Int), (2:Int), [(99:UInt8)], (0:Int), (0:Int), false, Eng.RowD.mk 0 0 0 0 true fun (x:Nat) ↦ ((0:Int), (0:Int), ()), ()))=putU (tabU 1))∧∀
      (y1:Nat × Nat × Nat), List.length ([]:List (Int × Int))≤y1.2.2→y1.2.2≤9223372036854775807→(List.length ([]:List (Int × Int))=0→y1.2.2=0)→∀ (b2:Nat), (b2=b2∧0=0)∧(b1=b1∧0=0)∧(b2=b2∧0=0)∧(∀ (b3:Nat), (b2=b2∧0=0)∧(b1=b1∧0=0)∧(b2=b2∧0=0)∧(∀ (b4:Nat), (b1=b1∧0=0)∧(b2=b2∧0=0)∧∀ (b5 b6:Nat), (b1=b1∧0=0)∧∀ (b7:Nat), true=true∧8≤140737488355328∧1≤9223372036854775807∧1≤1∧(b7=b7∧0=0)∧∀ (b8 b9:Nat),
      1≤b9→b9≤9223372036854775807→(1=0→b9=0)→(b1=b1∧0=0)∧(b6=b6∧0=0)∧(b1=b1∧0=0)∧(b6=b6∧0=0)∧(b6=b6∧0=0)∧(b2=b2∧0=0)∧∀ (b10:Nat), (b10=b10∧0=0)∧(b10=b10∧0=0)∧(b10=b10∧0=0)∧(b6=b6∧0=0)∧(b6=b6∧0=0)∧true=true∧3≤140737488355328∧Int.toNat (IntKind.i64.wrap (IntKind.i64.wrap ((2:Int)+(↑(List.length [(99:UInt8)]):Int)) - (↑(0:Nat):Int)))≤9223372036854775807∧(0:Int)≤IntKind.i64.wrap (IntKind.i64.wrap
      ((2:Int)+(↑(List.length [(99:UInt8)]):Int)) - (↑(0:Nat):Int))∧IntKind.i64.wrap (IntKind.i64.wrap ((2:Int)+(↑(List.length [(99:UInt8)]):Int)) - (↑(0:Nat):Int))≤(9223372036854775807:Int)∧∀ (b11 b12:Nat), Int.toNat (IntKind.i64.wrap (IntKind.i64.wrap ((2:Int)+(↑(List.length [(99:UInt8)]):Int)) - (↑(0:Nat):Int)))≤b12→b12≤9223372036854775807→(Int.toNat (IntKind.i64.wrap (IntKind.i64.wrap
      ((2:Int)+(↑(List.length [(99:UInt8)]):Int)) - (↑(0:Nat):Int)))=0→b12=0)→(b6=b6∧0=0)∧(Rising (keys8 fun (x:Int) ↦ false)∧(∀ (v1:Int), false=true↔v1 ∈ keys8 fun (x:Int) ↦ false)∧∀ (v2:Int), (v2 ∈ keys8 fun (x:Int) ↦ false)→0≤v2∧v2 < 65536)∧b5=b5∧0 < 1∧(b6=b6∧0=0)∧∀ (y2:Nat × Nat × Nat), List.length (keys8 fun (x:Int) ↦ false)≤y2.2.2∧y2.2.2≤9223372036854775807∧(List.length (keys8 fun (x:Int) ↦
      false)=0→y2.2.2=0)→(b6=b6∧0=0)∧(0:Int)≤IntKind.i64.wrap ((2:Int)+(↑(List.length [(99:UInt8)]):Int))∧IntKind.i64.wrap ((2:Int)+(↑(List.length [(99:UInt8)]):Int))≤(↑b12:Int)∧(0:Int)≤2∧(2:Int)≤IntKind.i64.wrap ((2:Int)+(↑(List.length [(99:UInt8)]):Int))∧0≤(↑(List.length [(99:UInt8)]):Int)∧(↑(List.length [(99:UInt8)]):Int)≤(↑(List.length [(99:UInt8)]):Int)∧(0:Int)≤IntKind.i64.wrap ((2:Int) -
      (2:Int))∧IntKind.i64.wrap ((2:Int) - (2:Int))≤(↑(List.length [(99:UInt8)]):Int)∧((b11=b11∧0=0)∧(if b12=Int.toNat (2:Int) then 0 else 2)+1≤Int.toNat (IntKind.i64.wrap (IntKind.i64.wrap ((2:Int)+(↑(List.length [(99:UInt8)]):Int)) - (↑(0:Nat):Int)))∧(b6=b6∧0=0)∧b5=b5∧0 < 1∧(∀ (b13:Nat), b13 < 1→b13≠0→b5≠b5)∧(b6=b6∧0=0)∧(false=false→b1=b1∧0=0)∧(b1=b1∧0=0)∧∀ (b14:Nat), (0:Int)≤0∧0 <
      (↑(1:Nat):Int)∧(b8=b8∧0=0)∧0 < 1∧(b6=b6∧0=0)∧(b14=b14∧0=0)∧(0:Int)≤0∧0 < (↑(1:Nat):Int)∧(b8=b8∧0=0)∧0 < 1∧(false=false→b6=b6∧0=0)∧(b6=b6∧0=0)∧(b6=b6∧0=0)∧(Rising (keys8 fun (z:Int) ↦ false||decide (z=(2:Int)))∧(∀ (v3:Int), (false||decide (v3=(2:Int)))=true↔v3 ∈ keys8 fun (z:Int) ↦ false||decide (z=(2:Int)))∧∀ (v4:Int), (v4 ∈ keys8 fun (z:Int) ↦ false||decide (z=(2:Int)))→0≤v4∧v4 < 65536)∧b5=b5∧0 <
      1∧(b6=b6∧0=0)∧∀ (y3:Nat × Nat × Nat), List.length (keys8 fun (z:Int) ↦ false||decide (z=(2:Int)))≤y3.2.2∧y3.2.2≤9223372036854775807∧(List.length (keys8 fun (z:Int) ↦ false||decide (z=(2:Int)))=0→y3.2.2=0)→(0:Int)≤0∧0 < (↑(List.length (keys8 fun (z:Int) ↦ false||decide (z=(2:Int)))):Int)∧(y3.1=y3.1∧y3.2.1=y3.2.1)∧0 < List.length (keys8 fun (z:Int) ↦ false||decide (z=(2:Int)))∧∀ (b15:Nat),
      true=true∧16≤140737488355328∧1≤9223372036854775807∧1≤1∧(b15=b15∧0=0)∧∀ (b16 b17:Nat), 1≤b17→b17≤9223372036854775807→(1=0→b17=0)→(b6=b6∧0=0)∧b5=b5∧0 < 1∧(false=false→b1=b1∧0=0)∧((okU (tabU 16)∧inR (891568578:Int) (0:Int) (4294967295:Int))∧putU (uOf ((3:Int), (7:Int), [], (3:Int), (891568578:Int), (0:Int), [], (0:Int), (0:Int), false, Eng.RowD.mk 0 0 0 0 true fun (x:Nat) ↦ ((0:Int), (0:Int), ()),
      ()))=putU (tabU 16))∧∀ (y4:Nat × Nat × Nat), List.length ([]:List (Int × Int))≤y4.2.2→y4.2.2≤9223372036854775807→(List.length ([]:List (Int × Int))=0→y4.2.2=0)→∀ (b18:Nat), (b18=b18∧0=0)∧(b1=b1∧0=0)∧(b18=b18∧0=0)∧(∀ (b19:Nat), (0:Int)≤0∧0 < (↑(1:Nat):Int)∧(b8=b8∧0=0)∧0 < 1∧(b6=b6∧0=0)∧(b19=b19∧0=0)∧(0:Int)≤0∧0 < (↑(1:Nat):Int)∧(b8=b8∧0=0)∧0 <
      1∧(b18=b18∧0=0)∧(b6=b6∧0=0)∧(b1=b1∧0=0)∧(b6=b6∧0=0)∧(b6=b6∧0=0)∧(b18=b18∧0=0)∧∀ (b20:Nat), (b20=b20∧0=0)∧(b6=b6∧0=0)∧(b6=b6∧0=0)∧(b20=b20∧0=0)∧(b6=b6∧0=0)∧(b20=b20∧0=0)∧(b20=b20∧0=0)∧((b6=b6∧0=0)∧((b6=b6∧0=0)∧((b6=b6∧0=0)∧((b6=b6∧0=0)∧(b6=b6∧0=0)∧(b6=b6∧0=0)∧(b6=b6∧0=0)∧(b6=b6∧0=0)∧(b6=b6∧0=0)∧(b6=b6∧0=0)∧(Rising (keys8 fun (z:Int) ↦ false||decide (z=(2:Int)))∧(∀ (v5:Int), (false||decide
      (v5=(2:Int)))=true↔v5 ∈ keys8 fun (z:Int) ↦ false||decide (z=(2:Int)))∧∀ (v6:Int), (v6 ∈ keys8 fun (z:Int) ↦ false||decide (z=(2:Int)))→0≤v6∧v6 < 65536)∧b5=b5∧0 < 1∧(b6=b6∧0=0)∧∀ (y5:Nat × Nat × Nat), List.length (keys8 fun (z:Int) ↦ false||decide (z=(2:Int)))≤y5.2.2∧y5.2.2≤9223372036854775807∧(List.length (keys8 fun (z:Int) ↦ false||decide (z=(2:Int)))=0→y5.2.2=0)→(0:Int)≤0∧0 < (↑(List.length
      (keys8 fun (z:Int) ↦ false||decide (z=(2:Int)))):Int)∧(y5.1=y5.1∧y5.2.1=y5.2.1)∧0 < List.length (keys8 fun (z:Int) ↦ false||decide (z=(2:Int)))∧∀ (b21:Nat), true=true∧16≤140737488355328∧1≤9223372036854775807∧1≤1∧(b21=b21∧0=0)∧∀ (b22 b23:Nat), 1≤b23→b23≤9223372036854775807→(1=0→b23=0)→(b6=b6∧0=0)∧b5=b5∧0 < 1∧(b6=b6∧0=0)∧(false=false→b1=b1∧0=0)∧((if false=true then true else
      (2:Int)==(0:Int))=false→b1=b1∧0=0)∧(b1=b1∧0=0)∧(b1=b1∧0=0)∧(∀ (b24:Nat), ((0:Int)≤0∧0 < (↑(2:Nat):Int)∧(b24=b24∧0=0)∧0 < 2∧(0:Int)≤IntKind.i64.wrap ((0:Int)+(1:Int))∧IntKind.i64.wrap ((0:Int)+(1:Int)) < (↑(2:Nat):Int)∧(b24=b24∧0=0)∧1 < 2∧0≤(↑(0:Nat):Int)∧(↑(0:Nat):Int)≤(↑(0:Nat):Int)∧true=true∧8≤140737488355328∧Int.toNat (IntKind.i64.wrap (IntKind.i64.wrap (IntKind.i64.wrap
      ((0:Int)+(↑(0:Nat):Int))+(↑(1:Nat):Int)) - IntKind.i64.wrap ((↑(0:Nat):Int) - (↑(0:Nat):Int))))≤9223372036854775807∧(0:Int)≤IntKind.i64.wrap (IntKind.i64.wrap (IntKind.i64.wrap ((0:Int)+(↑(0:Nat):Int))+(↑(1:Nat):Int)) - IntKind.i64.wrap ((↑(0:Nat):Int) - (↑(0:Nat):Int)))∧IntKind.i64.wrap (IntKind.i64.wrap (IntKind.i64.wrap ((0:Int)+(↑(0:Nat):Int))+(↑(1:Nat):Int)) - IntKind.i64.wrap ((↑(0:Nat):Int)
      - (↑(0:Nat):Int)))≤(9223372036854775807:Int)∧∀ (b25 b26:Nat), Int.toNat (IntKind.i64.wrap (IntKind.i64.wrap (IntKind.i64.wrap ((0:Int)+(↑(0:Nat):Int))+(↑(1:Nat):Int)) - IntKind.i64.wrap ((↑(0:Nat):Int) - (↑(0:Nat):Int))))≤b26→b26≤9223372036854775807→(Int.toNat (IntKind.i64.wrap (IntKind.i64.wrap (IntKind.i64.wrap ((0:Int)+(↑(0:Nat):Int))+(↑(1:Nat):Int)) - IntKind.i64.wrap ((↑(0:Nat):Int) -
      (↑(0:Nat):Int))))=0→b26=0)→0≤(↑(0:Nat):Int)∧(↑(0:Nat):Int)≤(↑b26:Int)∧(0:Int)≤0∧0 < (↑(2:Nat):Int)∧(b24=b24∧0=0)∧0 < 2∧(b25=b25∧0=0)∧(decide (Int.toNat (IntKind.i64.wrap (IntKind.i64.wrap (IntKind.i64.wrap ((0:Int)+(↑(0:Nat):Int))+(↑(1:Nat):Int)) - IntKind.i64.wrap ((↑(0:Nat):Int) - (↑(0:Nat):Int))))=0)=true→decide (Int.toNat (IntKind.i64.wrap (IntKind.i64.wrap (IntKind.i64.wrap
      ((0:Int)+(↑(0:Nat):Int))+(↑(1:Nat):Int)) - IntKind.i64.wrap ((↑(0:Nat):Int) - (↑(0:Nat):Int))))=0)=true)∧0=0∧Int.toNat (↑(0:Nat):Int)≤Int.toNat (IntKind.i64.wrap (IntKind.i64.wrap (IntKind.i64.wrap ((0:Int)+(↑(0:Nat):Int))+(↑(1:Nat):Int)) - IntKind.i64.wrap ((↑(0:Nat):Int) - (↑(0:Nat):Int))))∧b26≤b26∧0≤140737488355328∧Int.toNat (↑(0:Nat):Int)≤9223372036854775807∧true=true∧∀ (b27 b28 b29:Nat),
      Int.toNat (↑(0:Nat):Int)≤b29→b29≤9223372036854775807→(decide (Int.toNat (IntKind.i64.wrap (IntKind.i64.wrap (IntKind.i64.wrap ((0:Int)+(↑(0:Nat):Int))+(↑(1:Nat):Int)) - IntKind.i64.wrap ((↑(0:Nat):Int) - (↑(0:Nat):Int))))=0)=true→0=0→b29=0)→(0:Int)≤IntKind.i64.wrap ((0:Int)+(1:Int))∧IntKind.i64.wrap ((0:Int)+(1:Int)) < (↑(2:Nat):Int)∧(b24=b24∧0=0)∧1 < 2∧(b27=b27∧b28=b28)∧((decide (Int.toNat
      (IntKind.i64.wrap (IntKind.i64.wrap (IntKind.i64.wrap ((0:Int)+(↑(0:Nat):Int))+(↑(1:Nat):Int)) - IntKind.i64.wrap ((↑(0:Nat):Int) - (↑(0:Nat):Int))))=0)&&decide (0=0))=true→(decide (Int.toNat (IntKind.i64.wrap (IntKind.i64.wrap (IntKind.i64.wrap ((0:Int)+(↑(0:Nat):Int))+(↑(1:Nat):Int)) - IntKind.i64.wrap ((↑(0:Nat):Int) - (↑(0:Nat):Int))))=0)&&decide (0=0))=true)∧0=0∧Int.toNat
      (↑(0:Nat):Int)≤Int.toNat (↑(0:Nat):Int)∧b29≤b29∧8≤140737488355328∧1≤9223372036854775807∧1≤1∧(b8=b8∧0=0)∧∀ (b30 b31 b32:Nat), 1≤b32→b32≤9223372036854775807→((decide (Int.toNat (IntKind.i64.wrap (IntKind.i64.wrap (IntKind.i64.wrap ((0:Int)+(↑(0:Nat):Int))+(↑(1:Nat):Int)) - IntKind.i64.wrap ((↑(0:Nat):Int) - (↑(0:Nat):Int))))=0)&&decide (0=0))=true→1=0→b32=0)→(0:Int)≤0∧0 <
      (↑(1:Nat):Int)∧(b30=b30∧b31=b31)∧0 < 1∧(b6=b6∧0=0)∧∀ (b33:Nat), (b6=b6∧0=0)∧∀ (b34:Nat), (b34=b34∧0=0)∧(b6=b6∧0=0)∧(b6=b6∧0=0)∧(b6=b6∧0=0)∧(b34=b34∧0=0)∧(b34=b34∧0=0)∧(b34=b34∧0=0)∧(b33=b33∧0=0)∧(b33=b33∧0=0)∧true=true∧0≤4294967296∧((0:Int)≤0∧(0:Int)≤4294967295)∧(false=false→b1=b1∧0=0)∧((if false=true then true else (2:Int)==(0:Int))=false→b1=b1∧0=0)∧(b1=b1∧0=0)∧(b1=b1∧0=0)∧(∀ (b35:Nat),
      ((0:Int)≤0∧0 < (↑(2:Nat):Int)∧(b35=b35∧0=0)∧0 < 2∧(0:Int)≤IntKind.i64.wrap ((0:Int)+(1:Int))∧IntKind.i64.wrap ((0:Int)+(1:Int)) < (↑(2:Nat):Int)∧(b35=b35∧0=0)∧1 < 2∧0≤(↑(0:Nat):Int)∧(↑(0:Nat):Int)≤(↑(0:Nat):Int)∧true=true∧8≤140737488355328∧Int.toNat (IntKind.i64.wrap (IntKind.i64.wrap (IntKind.i64.wrap ((0:Int)+(↑(0:Nat):Int))+(↑(1:Nat):Int)) - IntKind.i64.wrap ((↑(0:Nat):Int) -
      (↑(0:Nat):Int))))≤9223372036854775807∧(0:Int)≤IntKind.i64.wrap (IntKind.i64.wrap (IntKind.i64.wrap ((0:Int)+(↑(0:Nat):Int))+(↑(1:Nat):Int)) - IntKind.i64.wrap ((↑(0:Nat):Int) - (↑(0:Nat):Int)))∧IntKind.i64.wrap (IntKind.i64.wrap (IntKind.i64.wrap ((0:Int)+(↑(0:Nat):Int))+(↑(1:Nat):Int)) - IntKind.i64.wrap ((↑(0:Nat):Int) - (↑(0:Nat):Int)))≤(9223372036854775807:Int)∧∀ (b36 b37:Nat), Int.toNat
      (IntKind.i64.wrap (IntKind.i64.wrap (IntKind.i64.wrap ((0:Int)+(↑(0:Nat):Int))+(↑(1:Nat):Int)) - IntKind.i64.wrap ((↑(0:Nat):Int) - (↑(0:Nat):Int))))≤b37→b37≤9223372036854775807→(Int.toNat (IntKind.i64.wrap (IntKind.i64.wrap (IntKind.i64.wrap ((0:Int)+(↑(0:Nat):Int))+(↑(1:Nat):Int)) - IntKind.i64.wrap ((↑(0:Nat):Int) -
      (↑(0:Nat):Int))))=0→b37=0)→0≤(↑(0:Nat):Int)∧(↑(0:Nat):Int)≤(↑b37:Int)∧(0:Int)≤0∧0 < (↑(2:Nat):Int)∧(b35=b35∧0=0)∧0 < 2∧(b36=b36∧0=0)∧(decide (Int.toNat (IntKind.i64.wrap (IntKind.i64.wrap (IntKind.i64.wrap ((0:Int)+(↑(0:Nat):Int))+(↑(1:Nat):Int)) - IntKind.i64.wrap ((↑(0:Nat):Int) - (↑(0:Nat):Int))))=0)=true→decide (Int.toNat (IntKind.i64.wrap (IntKind.i64.wrap (IntKind.i64.wrap
      ((0:Int)+(↑(0:Nat):Int))+(↑(1:Nat):Int)) - IntKind.i64.wrap ((↑(0:Nat):Int) - (↑(0:Nat):Int))))=0)=true)∧0=0∧Int.toNat (↑(0:Nat):Int)≤Int.toNat (IntKind.i64.wrap (IntKind.i64.wrap (IntKind.i64.wrap ((0:Int)+(↑(0:Nat):Int))+(↑(1:Nat):Int)) - IntKind.i64.wrap ((↑(0:Nat):Int) - (↑(0:Nat):Int))))∧b37≤b37∧0≤140737488355328∧Int.toNat (↑(0:Nat):Int)≤9223372036854775807∧true=true∧∀ (b38 b39 b40:Nat),
      Int.toNat (↑(0:Nat):Int)≤b40→b40≤9223372036854775807→(decide (Int.toNat (IntKind.i64.wrap (IntKind.i64.wrap (IntKind.i64.wrap ((0:Int)+(↑(0:Nat):Int))+(↑(1:Nat):Int)) - IntKind.i64.wrap ((↑(0:Nat):Int) - (↑(0:Nat):Int))))=0)=true→0=0→b40=0)→(0:Int)≤IntKind.i64.wrap ((0:Int)+(1:Int))∧IntKind.i64.wrap ((0:Int)+(1:Int)) < (↑(2:Nat):Int)∧(b35=b35∧0=0)∧1 < 2∧(b38=b38∧b39=b39)∧((decide (Int.toNat
      (IntKind.i64.wrap (IntKind.i64.wrap (IntKind.i64.wrap ((0:Int)+(↑(0:Nat):Int))+(↑(1:Nat):Int)) - IntKind.i64.wrap ((↑(0:Nat):Int) - (↑(0:Nat):Int))))=0)&&decide (0=0))=true→(decide (Int.toNat (IntKind.i64.wrap (IntKind.i64.wrap (IntKind.i64.wrap ((0:Int)+(↑(0:Nat):Int))+(↑(1:Nat):Int)) - IntKind.i64.wrap ((↑(0:Nat):Int) - (↑(0:Nat):Int))))=0)&&decide (0=0))=true)∧0=0∧Int.toNat
      (↑(0:Nat):Int)≤Int.toNat (↑(0:Nat):Int)∧b40≤b40∧8≤140737488355328∧1≤9223372036854775807∧1≤1∧(b8=b8∧0=0)∧∀ (b41 b42 b43:Nat), 1≤b43→b43≤9223372036854775807→((decide (Int.toNat (IntKind.i64.wrap (IntKind.i64.wrap (IntKind.i64.wrap ((0:Int)+(↑(0:Nat):Int))+(↑(1:Nat):Int)) - IntKind.i64.wrap ((↑(0:Nat):Int) - (↑(0:Nat):Int))))=0)&&decide (0=0))=true→1=0→b43=0)→(0:Int)≤0∧0 <
      (↑(1:Nat):Int)∧(b41=b41∧b42=b42)∧0 < 1∧(b6=b6∧0=0)∧∀ (b44:Nat), (b6=b6∧0=0)∧∀ (b45:Nat), (b45=b45∧0=0)∧(b6=b6∧0=0)∧(b6=b6∧0=0)∧(b6=b6∧0=0)∧(b6=b6∧0=0)∧(b6=b6∧0=0)∧(b6=b6∧0=0)∧(b6=b6∧0=0)∧(Rising (keys8 fun (z:Int) ↦ false||decide (z=(2:Int)))∧(∀ (v7:Int), (false||decide (v7=(2:Int)))=true↔v7 ∈ keys8 fun (z:Int) ↦ false||decide (z=(2:Int)))∧∀ (v8:Int), (v8 ∈ keys8 fun (z:Int) ↦ false||decide
      (z=(2:Int)))→0≤v8∧v8 < 65536)∧b5=b5∧0 < 1∧(b6=b6∧0=0)∧∀ (y6:Nat × Nat × Nat), List.length (keys8 fun (z:Int) ↦ false||decide (z=(2:Int)))≤y6.2.2∧y6.2.2≤9223372036854775807∧(List.length (keys8 fun (z:Int) ↦ false||decide (z=(2:Int)))=0→y6.2.2=0)→(0:Int)≤0∧0 < (↑(List.length (keys8 fun (z:Int) ↦ false||decide (z=(2:Int)))):Int)∧(y6.1=y6.1∧y6.2.1=y6.2.1)∧0 < List.length (keys8 fun (z:Int) ↦
      false||decide (z=(2:Int)))∧∀ (b46:Nat), true=true∧16≤140737488355328∧1≤9223372036854775807∧1≤1∧(b46=b46∧0=0)∧∀ (b47 b48:Nat), 1≤b48→b48≤9223372036854775807→(1=0→b48=0)→(b6=b6∧0=0)∧b5=b5∧0 < 1∧(b6=b6∧0=0)∧((0:Int)≤if 20 < (↑(1:Nat):Int) then (20:Int) else (↑(1:Nat):Int))∧(if 20 < (↑(1:Nat):Int) then (20:Int) else
      (↑(1:Nat):Int))≤(↑b48:Int)∧((b45=b45∧0=0)∧((b45=b45∧0=0)∧((b45=b45∧0=0)∧(b6=b6∧0=0)∧(b45=b45∧0=0)∧(b45=b45∧0=0)∧(0:Int)≤IntKind.i64.wrap ((↑(Int.toNat (if 20 < (↑(1:Nat):Int) then (20:Int) else (↑(1:Nat):Int))):Int) - (1:Int))∧IntKind.i64.wrap ((↑(Int.toNat (if 20 < (↑(1:Nat):Int) then (20:Int) else (↑(1:Nat):Int))):Int) - (1:Int)) < (↑(Int.toNat (if 20 < (↑(1:Nat):Int) then (20:Int) else
      (↑(1:Nat):Int))):Int)∧(b47=b47∧0=0)∧0 < 1∧(b6=b6∧0=0)∧(b1=b1∧0=0)∧(b6=b6∧0=0)∧(b45=b45∧0=0)∧(b44=b44∧0=0)∧(b44=b44∧0=0)∧1≤1∧(∀ (k1:Nat), k1 < Int.toNat (if 20 < (↑(1:Nat):Int) then (20:Int) else (↑(1:Nat):Int))→true=true)∧(b47=b47∧0=0)∧Int.toNat (if 20 < (↑(1:Nat):Int) then (20:Int) else (↑(1:Nat):Int))≤4294967296∧((0:Int)≤0∧(0:Int)≤4294967295)∧(false=false→b1=b1∧0=0)∧((if false=true then true else
      (2:Int)==(0:Int))=false→b1=b1∧0=0)∧(b1=b1∧0=0)∧(b1=b1∧0=0)∧(∀ (b49:Nat), ((0:Int)≤0∧0 < (↑(2:Nat):Int)∧(b49=b49∧0=0)∧0 < 2∧(0:Int)≤IntKind.i64.wrap ((0:Int)+(1:Int))∧IntKind.i64.wrap ((0:Int)+(1:Int)) < (↑(2:Nat):Int)∧(b49=b49∧0=0)∧1 < 2∧0≤(↑(0:Nat):Int)∧(↑(0:Nat):Int)≤(↑(0:Nat):Int)∧true=true∧8≤140737488355328∧Int.toNat (IntKind.i64.wrap (IntKind.i64.wrap (IntKind.i64.wrap
      ((0:Int)+(↑(0:Nat):Int))+(↑(1:Nat):Int)) - IntKind.i64.wrap ((↑(0:Nat):Int) - (↑(0:Nat):Int))))≤9223372036854775807∧(0:Int)≤IntKind.i64.wrap (IntKind.i64.wrap (IntKind.i64.wrap ((0:Int)+(↑(0:Nat):Int))+(↑(1:Nat):Int)) - IntKind.i64.wrap ((↑(0:Nat):Int) - (↑(0:Nat):Int)))∧IntKind.i64.wrap (IntKind.i64.wrap (IntKind.i64.wrap ((0:Int)+(↑(0:Nat):Int))+(↑(1:Nat):Int)) - IntKind.i64.wrap ((↑(0:Nat):Int)
      - (↑(0:Nat):Int)))≤(9223372036854775807:Int)∧∀ (b50 b51:Nat), Int.toNat (IntKind.i64.wrap (IntKind.i64.wrap (IntKind.i64.wrap ((0:Int)+(↑(0:Nat):Int))+(↑(1:Nat):Int)) - IntKind.i64.wrap ((↑(0:Nat):Int) - (↑(0:Nat):Int))))≤b51→b51≤9223372036854775807→(Int.toNat (IntKind.i64.wrap (IntKind.i64.wrap (IntKind.i64.wrap ((0:Int)+(↑(0:Nat):Int))+(↑(1:Nat):Int)) - IntKind.i64.wrap ((↑(0:Nat):Int) -
      (↑(0:Nat):Int))))=0→b51=0)→0≤(↑(0:Nat):Int)∧(↑(0:Nat):Int)≤(↑b51:Int)∧(0:Int)≤0∧0 < (↑(2:Nat):Int)∧(b49=b49∧0=0)∧0 < 2∧(b50=b50∧0=0)∧(decide (Int.toNat (IntKind.i64.wrap (IntKind.i64.wrap (IntKind.i64.wrap ((0:Int)+(↑(0:Nat):Int))+(↑(1:Nat):Int)) - IntKind.i64.wrap ((↑(0:Nat):Int) - (↑(0:Nat):Int))))=0)=true→decide (Int.toNat (IntKind.i64.wrap (IntKind.i64.wrap (IntKind.i64.wrap
      ((0:Int)+(↑(0:Nat):Int))+(↑(1:Nat):Int)) - IntKind.i64.wrap ((↑(0:Nat):Int) - (↑(0:Nat):Int))))=0)=true)∧0=0∧Int.toNat (↑(0:Nat):Int)≤Int.toNat (IntKind.i64.wrap (IntKind.i64.wrap (IntKind.i64.wrap ((0:Int)+(↑(0:Nat):Int))+(↑(1:Nat):Int)) - IntKind.i64.wrap ((↑(0:Nat):Int) - (↑(0:Nat):Int))))∧b51≤b51∧0≤140737488355328∧Int.toNat (↑(0:Nat):Int)≤9223372036854775807∧true=true∧∀ (b52 b53 b54:Nat),
      Int.toNat (↑(0:Nat):Int)≤b54→b54≤9223372036854775807→(decide (Int.toNat (IntKind.i64.wrap (IntKind.i64.wrap (IntKind.i64.wrap ((0:Int)+(↑(0:Nat):Int))+(↑(1:Nat):Int)) - IntKind.i64.wrap ((↑(0:Nat):Int) - (↑(0:Nat):Int))))=0)=true→0=0→b54=0)→(0:Int)≤IntKind.i64.wrap ((0:Int)+(1:Int))∧IntKind.i64.wrap ((0:Int)+(1:Int)) < (↑(2:Nat):Int)∧(b49=b49∧0=0)∧1 < 2∧(b52=b52∧b53=b53)∧((decide (Int.toNat
      (IntKind.i64.wrap (IntKind.i64.wrap (IntKind.i64.wrap ((0:Int)+(↑(0:Nat):Int))+(↑(1:Nat):Int)) - IntKind.i64.wrap ((↑(0:Nat):Int) - (↑(0:Nat):Int))))=0)&&decide (0=0))=true→(decide (Int.toNat (IntKind.i64.wrap (IntKind.i64.wrap (IntKind.i64.wrap ((0:Int)+(↑(0:Nat):Int))+(↑(1:Nat):Int)) - IntKind.i64.wrap ((↑(0:Nat):Int) - (↑(0:Nat):Int))))=0)&&decide (0=0))=true)∧0=0∧Int.toNat
      (↑(0:Nat):Int)≤Int.toNat (↑(0:Nat):Int)∧b54≤b54∧8≤140737488355328∧1≤9223372036854775807∧1≤1∧(b8=b8∧0=0)∧∀ (b55 b56 b57:Nat), 1≤b57→b57≤9223372036854775807→((decide (Int.toNat (IntKind.i64.wrap (IntKind.i64.wrap (IntKind.i64.wrap ((0:Int)+(↑(0:Nat):Int))+(↑(1:Nat):Int)) - IntKind.i64.wrap ((↑(0:Nat):Int) - (↑(0:Nat):Int))))=0)&&decide (0=0))=true→1=0→b57=0)→(0:Int)≤0∧0 <
      (↑(1:Nat):Int)∧(b55=b55∧b56=b56)∧0 < 1∧(b6=b6∧0=0)∧true=true∧0≤4294967296∧((0:Int)≤0∧(0:Int)≤4294967295)∧(false=false→b1=b1∧0=0)∧((okU (tabU 36)∧inR (0:Int) (0:Int) (4294967295:Int))∧putU (uOf ((1:Int), (7:Int), [(102:UInt8)], (3:Int), (0:Int), (0:Int), [], (0:Int), (0:Int), false, Eng.RowD.mk 0 0 0 0 true fun (x:Nat) ↦ ((0:Int), (0:Int), ()), ()))=putU (tabU 36))∧∀ (y7:Nat × Nat × Nat),
      List.length ([]:List (Int × Int))≤y7.2.2→y7.2.2≤9223372036854775807→(List.length ([]:List (Int × Int))=0→y7.2.2=0)→∀ (b58:Nat), (b58=b58∧0=0)∧(b1=b1∧0=0)∧(b58=b58∧0=0)∧(∀ (b59:Nat), (0:Int)≤0∧0 < (↑(1:Nat):Int)∧(b8=b8∧0=0)∧0 < 1∧(b6=b6∧0=0)∧(b59=b59∧0=0)∧(0:Int)≤0∧0 < (↑(1:Nat):Int)∧(b8=b8∧0=0)∧0 < 1∧(b58=b58∧0=0)∧(b6=b6∧0=0)∧(b1=b1∧0=0)∧(b6=b6∧0=0)∧(b6=b6∧0=0)∧(b58=b58∧0=0)∧∀ (b60:Nat),
      (b60=b60∧0=0)∧(b6=b6∧0=0)∧(b60=b60∧0=0)∧(b60=b60∧0=0)∧((b6=b6∧0=0)∧((b6=b6∧0=0)∧((b6=b6∧0=0)∧(b6=b6∧0=0)∧(b6=b6∧0=0)∧(b6=b6∧0=0)∧(b6=b6∧0=0)∧(Rising (keys8 fun (z:Int) ↦ false||decide (z=(2:Int)))∧(∀ (v9:Int), (false||decide (v9=(2:Int)))=true↔v9 ∈ keys8 fun (z:Int) ↦ false||decide (z=(2:Int)))∧∀ (v10:Int), (v10 ∈ keys8 fun (z:Int) ↦ false||decide (z=(2:Int)))→0≤v10∧v10 < 65536)∧b5=b5∧0 <
      1∧(b6=b6∧0=0)∧∀ (y8:Nat × Nat × Nat), List.length (keys8 fun (z:Int) ↦ false||decide (z=(2:Int)))≤y8.2.2∧y8.2.2≤9223372036854775807∧(List.length (keys8 fun (z:Int) ↦ false||decide (z=(2:Int)))=0→y8.2.2=0)→(0:Int)≤0∧0 < (↑(List.length (keys8 fun (z:Int) ↦ false||decide (z=(2:Int)))):Int)∧(y8.1=y8.1∧y8.2.1=y8.2.1)∧0 < List.length (keys8 fun (z:Int) ↦ false||decide (z=(2:Int)))∧∀ (b61:Nat),
      true=true∧16≤140737488355328∧1≤9223372036854775807∧1≤1∧(b61=b61∧0=0)∧∀ (b62 b63:Nat), 1≤b63→b63≤9223372036854775807→(1=0→b63=0)→(b6=b6∧0=0)∧b5=b5∧0 < 1∧(b6=b6∧0=0)∧(b6=b6∧0=0)∧(decide ((if (3:Int) < List.getD (keys8 fun (z:Int) ↦ false||decide (z=(2:Int))) 0 (0:Int) then (3:Int) else List.getD (keys8 fun (z:Int) ↦ false||decide (z=(2:Int))) 0 (0:Int)) > (0:Int))=true→(0:Int)≤0)∧(decide ((if (3:Int)
      < List.getD (keys8 fun (z:Int) ↦ false||decide (z=(2:Int))) 0 (0:Int) then (3:Int) else List.getD (keys8 fun (z:Int) ↦ false||decide (z=(2:Int))) 0 (0:Int)) > (0:Int))=true→0 < (↑(1:Nat):Int))∧(decide ((if (3:Int) < List.getD (keys8 fun (z:Int) ↦ false||decide (z=(2:Int))) 0 (0:Int) then (3:Int) else List.getD (keys8 fun (z:Int) ↦ false||decide (z=(2:Int))) 0 (0:Int)) >
      (0:Int))=true→b62=b62∧0=0)∧(decide ((if (3:Int) < List.getD (keys8 fun (z:Int) ↦ false||decide (z=(2:Int))) 0 (0:Int) then (3:Int) else List.getD (keys8 fun (z:Int) ↦ false||decide (z=(2:Int))) 0 (0:Int)) > (0:Int))=true→0 < 1)∧(decide ((if (3:Int) < List.getD (keys8 fun (z:Int) ↦ false||decide (z=(2:Int))) 0 (0:Int) then (3:Int) else List.getD (keys8 fun (z:Int) ↦ false||decide (z=(2:Int))) 0
      (0:Int)) > (0:Int))=true→b6=b6∧0=0)∧true=true∧0≤4294967296∧((0:Int)≤0∧(0:Int)≤4294967295)∧(false=false→b1=b1∧0=0)∧((okU (tabU 43)∧inR (0:Int) (0:Int) (4294967295:Int))∧putU (uOf ((2:Int), (7:Int), [], (0:Int), (0:Int), (0:Int), [(97:UInt8), (98:UInt8), (88:UInt8)], (0:Int), (0:Int), false, Eng.RowD.mk 0 0 0 0 true fun (x:Nat) ↦ ((0:Int), (0:Int), ()), ()))=putU (tabU 43))∧∀ (y9:Nat × Nat × Nat),
      List.length ([]:List (Int × Int))≤y9.2.2→y9.2.2≤9223372036854775807→(List.length ([]:List (Int × Int))=0→y9.2.2=0)→∀ (b64:Nat), (b64=b64∧0=0)∧(b1=b1∧0=0)∧(b64=b64∧0=0)∧(∀ (b65:Nat), (0:Int)≤0∧0 < (↑(1:Nat):Int)∧(b8=b8∧0=0)∧0 < 1∧(b6=b6∧0=0)∧(b65=b65∧0=0)∧(0:Int)≤0∧0 < (↑(1:Nat):Int)∧(b8=b8∧0=0)∧0 < 1∧(b64=b64∧0=0)∧(b6=b6∧0=0)∧(b1=b1∧0=0)∧(b6=b6∧0=0)∧(b6=b6∧0=0)∧(b64=b64∧0=0)∧∀ (b66:Nat),
      (b66=b66∧0=0)∧(b66=b66∧0=0)∧(b66=b66∧0=0)∧(b6=b6∧0=0)∧(Rising (keys8 fun (z:Int) ↦ false||decide (z=(2:Int)))∧(∀ (v11:Int), (false||decide (v11=(2:Int)))=true↔v11 ∈ keys8 fun (z:Int) ↦ false||decide (z=(2:Int)))∧∀ (v12:Int), (v12 ∈ keys8 fun (z:Int) ↦ false||decide (z=(2:Int)))→0≤v12∧v12 < 65536)∧b5=b5∧0 < 1∧(b6=b6∧0=0)∧∀ (y10:Nat × Nat × Nat), List.length (keys8 fun (z:Int) ↦ false||decide
      (z=(2:Int)))≤y10.2.2∧y10.2.2≤9223372036854775807∧(List.length (keys8 fun (z:Int) ↦ false||decide (z=(2:Int)))=0→y10.2.2=0)→(0:Int)≤0∧0 < (↑(List.length (keys8 fun (z:Int) ↦ false||decide (z=(2:Int)))):Int)∧(y10.1=y10.1∧y10.2.1=y10.2.1)∧0 < List.length (keys8 fun (z:Int) ↦ false||decide (z=(2:Int)))∧(b6=b6∧0=0)∧b5=b5∧0 < 1∧(b6=b6∧0=0)∧(0:Int)≤List.getD (keys8 fun (z:Int) ↦ false||decide (z=(2:Int)))
      0 (0:Int)∧List.getD (keys8 fun (z:Int) ↦ false||decide (z=(2:Int))) 0 0≤(↑b12:Int)∧(0:Int)≤0∧(0:Int)≤List.getD (keys8 fun (z:Int) ↦ false||decide (z=(2:Int))) 0 (0:Int)∧0≤(↑(List.length [(97:UInt8), (98:UInt8), (88:UInt8)]):Int)∧(↑(List.length [(97:UInt8), (98:UInt8), (88:UInt8)]):Int)≤(↑(List.length [(97:UInt8), (98:UInt8), (88:UInt8)]):Int)∧(0:Int)≤IntKind.i64.wrap ((0:Int) -
      (0:Int))∧IntKind.i64.wrap ((0:Int) - (0:Int))≤(↑(List.length [(97:UInt8), (98:UInt8), (88:UInt8)]):Int)∧((b11=b11∧0=0)∧(if b12=Int.toNat (0:Int) then 0 else 0)+2≤Int.toNat (IntKind.i64.wrap (IntKind.i64.wrap ((2:Int)+(↑(List.length [(99:UInt8)]):Int)) - (↑(0:Nat):Int)))∧(b6=b6∧0=0)∧b5=b5∧0 < 1∧(∀ (b67:Nat), b67 < 1→b67≠0→b5≠b5)∧(b6=b6∧0=0)∧b5=b5∧0 < 1∧(∀ (b68:Nat), b68 <
      1→b68≠0→b5≠b5)∧(b6=b6∧0=0)∧(b6=b6∧0=0)∧(b6=b6∧0=0)∧(b6=b6∧0=0)∧(Rising (keys8 fun (z:Int) ↦ (false||decide (z=(2:Int)))&&!decide (z=List.getD (keys8 fun (z:Int) ↦ false||decide (z=(2:Int))) 0 (0:Int))||decide (z=if List.getD (keys8 fun (z:Int) ↦ false||decide (z=(2:Int))) 0 (0:Int) < 0 then List.getD (keys8 fun (z:Int) ↦ false||decide (z=(2:Int))) 0 (0:Int) else (0:Int)))∧(∀ (v13:Int),
      ((false||decide (v13=(2:Int)))&&!decide (v13=List.getD (keys8 fun (z:Int) ↦ false||decide (z=(2:Int))) 0 (0:Int))||decide (v13=if List.getD (keys8 fun (z:Int) ↦ false||decide (z=(2:Int))) 0 (0:Int) < 0 then List.getD (keys8 fun (z:Int) ↦ false||decide (z=(2:Int))) 0 (0:Int) else (0:Int)))=true↔v13 ∈ keys8 fun (z:Int) ↦ (false||decide (z=(2:Int)))&&!decide (z=List.getD (keys8 fun (z:Int) ↦
      false||decide (z=(2:Int))) 0 (0:Int))||decide (z=if List.getD (keys8 fun (z:Int) ↦ false||decide (z=(2:Int))) 0 (0:Int) < 0 then List.getD (keys8 fun (z:Int) ↦ false||decide (z=(2:Int))) 0 (0:Int) else (0:Int)))∧∀ (v14:Int), (v14 ∈ keys8 fun (z:Int) ↦ (false||decide (z=(2:Int)))&&!decide (z=List.getD (keys8 fun (z:Int) ↦ false||decide (z=(2:Int))) 0 (0:Int))||decide (z=if List.getD (keys8 fun
      (z:Int) ↦ false||decide (z=(2:Int))) 0 (0:Int) < 0 then List.getD (keys8 fun (z:Int) ↦ false||decide (z=(2:Int))) 0 (0:Int) else (0:Int)))→0≤v14∧v14 < 65536)∧b5=b5∧0 < 1∧(b6=b6∧0=0)∧∀ (y11:Nat × Nat × Nat), List.length (keys8 fun (z:Int) ↦ (false||decide (z=(2:Int)))&&!decide (z=List.getD (keys8 fun (z:Int) ↦ false||decide (z=(2:Int))) 0 (0:Int))||decide (z=if List.getD (keys8 fun (z:Int) ↦
      false||decide (z=(2:Int))) 0 (0:Int) < 0 then List.getD (keys8 fun (z:Int) ↦ false||decide (z=(2:Int))) 0 (0:Int) else (0:Int)))≤y11.2.2∧y11.2.2≤9223372036854775807∧(List.length (keys8 fun (z:Int) ↦ (false||decide (z=(2:Int)))&&!decide (z=List.getD (keys8 fun (z:Int) ↦ false||decide (z=(2:Int))) 0 (0:Int))||decide (z=if List.getD (keys8 fun (z:Int) ↦ false||decide (z=(2:Int))) 0 (0:Int) < 0 then
      List.getD (keys8 fun (z:Int) ↦ false||decide (z=(2:Int))) 0 (0:Int) else (0:Int)))=0→y11.2.2=0)→(0:Int)≤0∧0 < (↑(List.length (keys8 fun (z:Int) ↦ (false||decide (z=(2:Int)))&&!decide (z=List.getD (keys8 fun (z:Int) ↦ false||decide (z=(2:Int))) 0 (0:Int))||decide (z=if List.getD (keys8 fun (z:Int) ↦ false||decide (z=(2:Int))) 0 (0:Int) < 0 then List.getD (keys8 fun (z:Int) ↦ false||decide
      (z=(2:Int))) 0 (0:Int) else (0:Int)))):Int)∧(y11.1=y11.1∧y11.2.1=y11.2.1)∧0 < List.length (keys8 fun (z:Int) ↦ (false||decide (z=(2:Int)))&&!decide (z=List.getD (keys8 fun (z:Int) ↦ false||decide (z=(2:Int))) 0 (0:Int))||decide (z=if List.getD (keys8 fun (z:Int) ↦ false||decide (z=(2:Int))) 0 (0:Int) < 0 then List.getD (keys8 fun (z:Int) ↦ false||decide (z=(2:Int))) 0 (0:Int) else
      (0:Int)))∧(b6=b6∧0=0)∧b5=b5∧0 < 1∧(b6=b6∧0=0)∧(b6=b6∧0=0)∧(b6=b6∧0=0)∧(b6=b6∧0=0)∧(b6=b6∧0=0)∧(b6=b6∧0=0)∧3≤Int.toNat (IntKind.i64.wrap (IntKind.i64.wrap ((2:Int)+(↑(List.length [(99:UInt8)]):Int)) - (↑(0:Nat):Int)))∧(∀ (k2:Nat), k2 < Int.toNat (IntKind.i64.wrap (IntKind.i64.wrap ((2:Int)+(↑(List.length [(99:UInt8)]):Int)) - (↑(0:Nat):Int)))→true=true)∧(b11=b11∧0=0)∧crc32 (Byt.of (fun (k:Nat) ↦ if
      (if b12=Int.toNat (0:Int) then 0 else 0)≤k∧k < (if b12=Int.toNat (0:Int) then 0 else 0)+Min.min (List.length (List.drop (Int.toNat (IntKind.i64.wrap ((0:Int) - (0:Int)))) (List.take (Int.toNat (↑(List.length [(97:UInt8), (98:UInt8), (88:UInt8)]):Int)) [(97:UInt8), (98:UInt8), (88:UInt8)]))) 2 then (↑(UInt8.toNat (List.getD (List.drop (Int.toNat (IntKind.i64.wrap ((0:Int) - (0:Int)))) (List.take
      (Int.toNat (↑(List.length [(97:UInt8), (98:UInt8), (88:UInt8)]):Int)) [(97:UInt8), (98:UInt8), (88:UInt8)])) (k - if b12=Int.toNat (0:Int) then 0 else 0) 0)):Int) else if (if b12=Int.toNat (2:Int) then 0 else 2)≤k∧k < (if b12=Int.toNat (2:Int) then 0 else 2)+Min.min (List.length (List.drop (Int.toNat (IntKind.i64.wrap ((2:Int) - (2:Int)))) (List.take (Int.toNat (↑(List.length [(99:UInt8)]):Int))
      [(99:UInt8)]))) 1 then (↑(UInt8.toNat (List.getD (List.drop (Int.toNat (IntKind.i64.wrap ((2:Int) - (2:Int)))) (List.take (Int.toNat (↑(List.length [(99:UInt8)]):Int)) [(99:UInt8)])) (k - if b12=Int.toNat (2:Int) then 0 else 2) 0)):Int) else (0:Int)) (Int.toNat (IntKind.i64.wrap (IntKind.i64.wrap ((2:Int)+(↑(List.length [(99:UInt8)]):Int)) -
      (↑(0:Nat):Int)))))=(891568578:Int)∧(b6=b6∧0=0)∧(b6=b6∧0=0)∧(b6=b6∧0=0)∧(b6=b6∧0=0)∧(b6=b6∧0=0)∧(b1=b1∧0=0)∧(b6=b6∧0=0)∧(b6=b6∧0=0)∧(b6=b6∧0=0)∧∀ (b69:Nat), (b69=b69∧0=0)∧(b6=b6∧0=0)∧(b6=b6∧0=0)∧3≤Int.toNat (IntKind.i64.wrap (IntKind.i64.wrap ((2:Int)+(↑(List.length [(99:UInt8)]):Int)) - (↑(0:Nat):Int)))∧(∀ (k3:Nat), k3 < Int.toNat (IntKind.i64.wrap (IntKind.i64.wrap ((2:Int)+(↑(List.length
      [(99:UInt8)]):Int)) - (↑(0:Nat):Int)))→true=true)∧(b11=b11∧0=0)∧∀ (s1:List UInt8), s1=Byt.of (fun (k:Nat) ↦ if (if b12=Int.toNat (0:Int) then 0 else 0)≤k∧k < (if b12=Int.toNat (0:Int) then 0 else 0)+Min.min (List.length (List.drop (Int.toNat (IntKind.i64.wrap ((0:Int) - (0:Int)))) (List.take (Int.toNat (↑(List.length [(97:UInt8), (98:UInt8), (88:UInt8)]):Int)) [(97:UInt8), (98:UInt8),
      (88:UInt8)]))) 2 then (↑(UInt8.toNat (List.getD (List.drop (Int.toNat (IntKind.i64.wrap ((0:Int) - (0:Int)))) (List.take (Int.toNat (↑(List.length [(97:UInt8), (98:UInt8), (88:UInt8)]):Int)) [(97:UInt8), (98:UInt8), (88:UInt8)])) (k - if b12=Int.toNat (0:Int) then 0 else 0) 0)):Int) else if (if b12=Int.toNat (2:Int) then 0 else 2)≤k∧k < (if b12=Int.toNat (2:Int) then 0 else 2)+Min.min (List.length
      (List.drop (Int.toNat (IntKind.i64.wrap ((2:Int) - (2:Int)))) (List.take (Int.toNat (↑(List.length [(99:UInt8)]):Int)) [(99:UInt8)]))) 1 then (↑(UInt8.toNat (List.getD (List.drop (Int.toNat (IntKind.i64.wrap ((2:Int) - (2:Int)))) (List.take (Int.toNat (↑(List.length [(99:UInt8)]):Int)) [(99:UInt8)])) (k - if b12=Int.toNat (2:Int) then 0 else 2) 0)):Int) else (0:Int)) (Int.toNat (IntKind.i64.wrap
      (IntKind.i64.wrap ((2:Int)+(↑(List.length [(99:UInt8)]):Int)) - (↑(0:Nat):Int))))→((b69=b69∧0=0)∧((b69=b69∧0=0)∧(b69=b69∧0=0)∧∀ (b70:Nat), (false=false→b1=b1∧0=0)∧((if false=true then true else (2:Int)==(0:Int))=false→b1=b1∧0=0)∧(b1=b1∧0=0)∧(b1=b1∧0=0)∧(∀ (b71:Nat), ((0:Int)≤0∧0 < (↑(2:Nat):Int)∧(b71=b71∧0=0)∧0 < 2∧(0:Int)≤IntKind.i64.wrap ((0:Int)+(1:Int))∧IntKind.i64.wrap ((0:Int)+(1:Int)) <
      (↑(2:Nat):Int)∧(b71=b71∧0=0)∧1 < 2∧0≤(↑(0:Nat):Int)∧(↑(0:Nat):Int)≤(↑(0:Nat):Int)∧true=true∧8≤140737488355328∧Int.toNat (IntKind.i64.wrap (IntKind.i64.wrap (IntKind.i64.wrap ((0:Int)+(↑(0:Nat):Int))+(↑(1:Nat):Int)) - IntKind.i64.wrap ((↑(0:Nat):Int) - (↑(0:Nat):Int))))≤9223372036854775807∧(0:Int)≤IntKind.i64.wrap (IntKind.i64.wrap (IntKind.i64.wrap ((0:Int)+(↑(0:Nat):Int))+(↑(1:Nat):Int)) -
      IntKind.i64.wrap ((↑(0:Nat):Int) - (↑(0:Nat):Int)))∧IntKind.i64.wrap (IntKind.i64.wrap (IntKind.i64.wrap ((0:Int)+(↑(0:Nat):Int))+(↑(1:Nat):Int)) - IntKind.i64.wrap ((↑(0:Nat):Int) - (↑(0:Nat):Int)))≤(9223372036854775807:Int)∧∀ (b72 b73:Nat), Int.toNat (IntKind.i64.wrap (IntKind.i64.wrap (IntKind.i64.wrap ((0:Int)+(↑(0:Nat):Int))+(↑(1:Nat):Int)) - IntKind.i64.wrap ((↑(0:Nat):Int) -
      (↑(0:Nat):Int))))≤b73→b73≤9223372036854775807→(Int.toNat (IntKind.i64.wrap (IntKind.i64.wrap (IntKind.i64.wrap ((0:Int)+(↑(0:Nat):Int))+(↑(1:Nat):Int)) - IntKind.i64.wrap ((↑(0:Nat):Int) - (↑(0:Nat):Int))))=0→b73=0)→0≤(↑(0:Nat):Int)∧(↑(0:Nat):Int)≤(↑b73:Int)∧(0:Int)≤0∧0 < (↑(2:Nat):Int)∧(b71=b71∧0=0)∧0 < 2∧(b72=b72∧0=0)∧(decide (Int.toNat (IntKind.i64.wrap (IntKind.i64.wrap (IntKind.i64.wrap
      ((0:Int)+(↑(0:Nat):Int))+(↑(1:Nat):Int)) - IntKind.i64.wrap ((↑(0:Nat):Int) - (↑(0:Nat):Int))))=0)=true→decide (Int.toNat (IntKind.i64.wrap (IntKind.i64.wrap (IntKind.i64.wrap ((0:Int)+(↑(0:Nat):Int))+(↑(1:Nat):Int)) - IntKind.i64.wrap ((↑(0:Nat):Int) - (↑(0:Nat):Int))))=0)=true)∧0=0∧Int.toNat (↑(0:Nat):Int)≤Int.toNat (IntKind.i64.wrap (IntKind.i64.wrap (IntKind.i64.wrap
      ((0:Int)+(↑(0:Nat):Int))+(↑(1:Nat):Int)) - IntKind.i64.wrap ((↑(0:Nat):Int) - (↑(0:Nat):Int))))∧b73≤b73∧0≤140737488355328∧Int.toNat (↑(0:Nat):Int)≤9223372036854775807∧true=true∧∀ (b74 b75 b76:Nat), Int.toNat (↑(0:Nat):Int)≤b76→b76≤9223372036854775807→(decide (Int.toNat (IntKind.i64.wrap (IntKind.i64.wrap (IntKind.i64.wrap ((0:Int)+(↑(0:Nat):Int))+(↑(1:Nat):Int)) - IntKind.i64.wrap ((↑(0:Nat):Int) -
      (↑(0:Nat):Int))))=0)=true→0=0→b76=0)→(0:Int)≤IntKind.i64.wrap ((0:Int)+(1:Int))∧IntKind.i64.wrap ((0:Int)+(1:Int)) < (↑(2:Nat):Int)∧(b71=b71∧0=0)∧1 < 2∧(b74=b74∧b75=b75)∧((decide (Int.toNat (IntKind.i64.wrap (IntKind.i64.wrap (IntKind.i64.wrap ((0:Int)+(↑(0:Nat):Int))+(↑(1:Nat):Int)) - IntKind.i64.wrap ((↑(0:Nat):Int) - (↑(0:Nat):Int))))=0)&&decide (0=0))=true→(decide (Int.toNat (IntKind.i64.wrap
      (IntKind.i64.wrap (IntKind.i64.wrap ((0:Int)+(↑(0:Nat):Int))+(↑(1:Nat):Int)) - IntKind.i64.wrap ((↑(0:Nat):Int) - (↑(0:Nat):Int))))=0)&&decide (0=0))=true)∧0=0∧Int.toNat (↑(0:Nat):Int)≤Int.toNat (↑(0:Nat):Int)∧b76≤b76∧8≤140737488355328∧1≤9223372036854775807∧1≤1∧(b8=b8∧0=0)∧∀ (b77 b78 b79:Nat), 1≤b79→b79≤9223372036854775807→((decide (Int.toNat (IntKind.i64.wrap (IntKind.i64.wrap (IntKind.i64.wrap
      ((0:Int)+(↑(0:Nat):Int))+(↑(1:Nat):Int)) - IntKind.i64.wrap ((↑(0:Nat):Int) - (↑(0:Nat):Int))))=0)&&decide (0=0))=true→1=0→b79=0)→(0:Int)≤0∧0 < (↑(1:Nat):Int)∧(b77=b77∧b78=b78)∧0 < 1∧(b6=b6∧0=0)∧∀ (b80:Nat), (b6=b6∧0=0)∧∀ (b81:Nat),
      (b81=b81∧0=0)∧(b6=b6∧0=0)∧(b6=b6∧0=0)∧(b6=b6∧0=0)∧(b6=b6∧0=0)∧(b6=b6∧0=0)∧((b81=b81∧0=0)∧((b81=b81∧0=0)∧(b6=b6∧0=0)∧(b1=b1∧0=0)∧(b6=b6∧0=0)∧(b81=b81∧0=0)∧(b80=b80∧0=0)∧(b80=b80∧0=0)∧true=true∧0≤4294967296∧((0:Int)≤0∧(0:Int)≤4294967295)∧true=true∧0≤4294967296∧((0:Int)≤0∧(0:Int)≤4294967295)∧(false=false→b1=b1∧0=0)∧((okU (tabU 55)∧inR (0:Int) (0:Int) (4294967295:Int))∧putU (uOf ((6:Int), (7:Int), [],
      (0:Int), (0:Int), (0:Int), [], (0:Int), (4:Int), false, Eng.RowD.mk 0 0 0 0 true fun (x:Nat) ↦ ((0:Int), (0:Int), ()), ()))=putU (tabU 55))∧∀ (y12:Nat × Nat × Nat), List.length ([]:List (Int × Int))≤y12.2.2→y12.2.2≤9223372036854775807→(List.length ([]:List (Int × Int))=0→y12.2.2=0)→∀ (b82:Nat), (b82=b82∧0=0)∧(b1=b1∧0=0)∧(b82=b82∧0=0)∧(∀ (b83:Nat), (0:Int)≤0∧0 < (↑(1:Nat):Int)∧(b8=b8∧0=0)∧0 <
      1∧(b6=b6∧0=0)∧(b83=b83∧0=0)∧(0:Int)≤0∧0 < (↑(1:Nat):Int)∧(b8=b8∧0=0)∧0 < 1∧(b82=b82∧0=0)∧(b82=b82∧0=0)∧(false=false→b6=b6∧0=0)∧(b1=b1∧0=0)∧(0:Int)≤0∧0 < (↑(1:Nat):Int)∧(b8=b8∧0=0)∧0 < 1∧(b6=b6∧0=0)∧(b11=b11∧0=0)∧3≤Int.toNat (IntKind.i64.wrap (IntKind.i64.wrap ((2:Int)+(↑(List.length [(99:UInt8)]):Int)) - (↑(0:Nat):Int)))∧(b1=b1∧0=0)∧(0:Int)≤0∧(0:Int)≤IntKind.i64.wrap
      ((0:Int)+(1:Int))∧IntKind.i64.wrap ((0:Int)+(1:Int))≤(↑(1:Nat):Int)∧(↑(1:Nat):Int)≤(↑b9:Int)∧(0:Int)≤0∧0≤(↑b9:Int)∧0≤(↑(1:Nat):Int)∧(↑(1:Nat):Int)≤(↑b9:Int)∧(0:Int)≤IntKind.i64.wrap ((0:Int)+(1:Int))∧IntKind.i64.wrap ((0:Int)+(1:Int))≤(↑(1:Nat):Int)∧((b8=b8∧0=0)∧decide (1=0)=false∧0=0∧Int.toNat (0:Int)≤b9∧Int.toNat
      (0:Int)≤1∧0≤140737488355328∧(match if b9=Int.toNat (IntKind.i64.wrap ((0:Int)+(1:Int))) then 0 else 1 with | 0 => 0 | Nat.succ i => i+1)≤1∧(b8=b8∧0=0)∧0≤(↑(1:Nat):Int)∧(↑(1:Nat):Int)≤(↑b9:Int)∧0≤(↑(Int.toNat (0:Int)):Int)∧(↑(Int.toNat (0:Int)):Int)≤(↑(1:Nat):Int)∧(b8=b8∧0=0)∧(if b9=Int.toNat (↑(Int.toNat (0:Int)):Int) then 0 else 0)+1≤1∧(b1=b1∧0=0)∧((b6=b6∧0=0)∧(b6=b6∧0=0)∧((b1=b1∧0=0)∧(∀
      (b84:Nat), (∀ (b85:Nat), (true=true∧8≤140737488355328∧1≤9223372036854775807∧1≤1∧(b85=b85∧0=0)∧∀ (b86 b87:Nat), 1≤b87→b87≤9223372036854775807→(1=0→b87=0)→((b1=b1∧0=0)∧∃ (x1:Nat × Nat × Nat × Nat), (0=0∧b1=b1∧0=0)∧((b1=b1∧0=0∧false=false∧1≤1∧1≤1∧1≤1)∧(10:Int)=10∧(2:Int)=2∧false=false∧(b8=b8∧0=0∧0=0∧Int.toNat (0:Int)=Int.toNat (0:Int)∧b9=b9∧false=false)∧b86=x1.1∧0=x1.2.1∧0=0∧1=1∧b87=x1.2.2.1∧decide
      (1=0)=false)∧((b86=x1.1∧0=x1.2.1∧decide (1=0)=false∧1≤1∧1≤x1.2.2.1∧x1.2.2.1≤b87)∧∀ (i1:Nat), i1 < 1→0=0∧b84=x1.2.2.2∧0=0)∧((b84=x1.2.2.2∧0=0∧false=false∧1≤1∧1≤1∧1≤1)∧(7:Int)=7∧(0:Int)=0∧false=false∧false=false∧([]:List UInt8)=[]∧(0:Int)=0∧(0:Int)=0∧(0:Int)=0∧(0=0∧0=0∧0=0∧0=0∧0=0∧true=true)∧SVeq (SV.val (Go.Value.map Option.none)) (SV.val (Go.Value.map
      Option.none))∧(0:Int)=0∧(0:Int)=0∧(0:Int)=0∧(0:Int)=0∧(0:Int)=0)∧1≤x1.2.2.1∧x1.2.2.1≤9223372036854775807)∧True)∧True)∧True)∧True)∧(∀ (b85:Nat), ((b1=b1∧0=0)∧(∀ (b86:Nat), (true=true∧8≤140737488355328∧1≤9223372036854775807∧1≤1∧(b86=b86∧0=0)∧∀ (b87 b88:Nat), 1≤b88→b88≤9223372036854775807→(1=0→b88=0)→((b1=b1∧0=0)∧∃ (x1:Nat × Nat × Nat × Nat),
      (0=0∧b1=b1∧0=0)∧((b1=b1∧0=0∧false=false∧1≤1∧1≤1∧1≤1)∧(10:Int)=10∧(2:Int)=2∧false=false∧(b8=b8∧0=0∧0=0∧Int.toNat (0:Int)=Int.toNat (0:Int)∧b9=b9∧false=false)∧b87=x1.1∧0=x1.2.1∧0=0∧1=1∧b88=x1.2.2.1∧decide (1=0)=false)∧((b87=x1.1∧0=x1.2.1∧decide (1=0)=false∧1≤1∧1≤x1.2.2.1∧x1.2.2.1≤b88)∧∀ (i1:Nat), i1 <
      1→0=0∧b85=x1.2.2.2∧0=0)∧((b85=x1.2.2.2∧0=0∧false=false∧1≤1∧1≤1∧1≤1)∧(7:Int)=7∧(0:Int)=0∧false=false∧false=false∧([]:List UInt8)=[]∧(0:Int)=0∧(0:Int)=0∧(0:Int)=0∧(0=0∧0=0∧0=0∧0=0∧0=0∧true=true)∧SVeq (SV.val (Go.Value.map Option.none)) (SV.val (Go.Value.map Option.none))∧(0:Int)=0∧(0:Int)=0∧(0:Int)=0∧(0:Int)=0∧(0:Int)=0)∧1≤x1.2.2.1∧x1.2.2.1≤9223372036854775807)∧True)∧True)∧True)∧(∀ (b87:Nat),
      ((b1=b1∧0=0)∧(true=true∧8≤140737488355328∧1≤9223372036854775807∧1≤1∧(b87=b87∧0=0)∧∀ (b88 b89:Nat), 1≤b89→b89≤9223372036854775807→(1=0→b89=0)→((b1=b1∧0=0)∧∃ (x1:Nat × Nat × Nat × Nat), (0=0∧b1=b1∧0=0)∧((b1=b1∧0=0∧false=false∧1≤1∧1≤1∧1≤1)∧(10:Int)=10∧(2:Int)=2∧false=false∧(b8=b8∧0=0∧0=0∧Int.toNat (0:Int)=Int.toNat (0:Int)∧b9=b9∧false=false)∧b88=x1.1∧0=x1.2.1∧0=0∧1=1∧b89=x1.2.2.1∧decide
      (1=0)=false)∧((b88=x1.1∧0=x1.2.1∧decide (1=0)=false∧1≤1∧1≤x1.2.2.1∧x1.2.2.1≤b89)∧∀ (i1:Nat), i1 < 1→0=0∧b85=x1.2.2.2∧0=0)∧((b85=x1.2.2.2∧0=0∧false=false∧1≤1∧1≤1∧1≤1)∧(7:Int)=7∧(0:Int)=0∧false=false∧false=false∧([]:List UInt8)=[]∧(0:Int)=0∧(0:Int)=0∧(0:Int)=0∧(0=0∧0=0∧0=0∧0=0∧0=0∧true=true)∧SVeq (SV.val (Go.Value.map Option.none)) (SV.val (Go.Value.map
      Option.none))∧(0:Int)=0∧(0:Int)=0∧(0:Int)=0∧(0:Int)=0∧(0:Int)=0)∧1≤x1.2.2.1∧x1.2.2.1≤9223372036854775807)∧True)∧True)∧True)∧True)∧True)∧∀ (x1:Nat × Nat × Nat × Nat), 1≤x1.2.2.1∧x1.2.2.1≤9223372036854775807→(b1=b1∧0=0)∧(false=false→b1=b1∧0=0)∧((okU (tabU 300)∧inR (0:Int) (0:Int) (4294967295:Int))∧putU (uOf ((6:Int), (7:Int), [], (0:Int), (0:Int), (0:Int), [], (0:Int), (4:Int), false, Eng.RowD.mk 0 0
      0 0 true fun (x:Nat) ↦ ((0:Int), (0:Int), ()), ()))=putU (tabU 300))∧∀ (y13:Nat × Nat × Nat), List.length ([]:List (Int × Int))≤y13.2.2→y13.2.2≤9223372036854775807→(List.length ([]:List (Int × Int))=0→y13.2.2=0)→∀ (b86:Nat), (b86=b86∧0=0)∧(b1=b1∧0=0)∧(b86=b86∧0=0)∧(∀ (b87:Nat), (b86=b86∧0=0)∧(b86=b86∧0=0)∧∀ (v15:Int), v15=(↑(1:Nat):Int)→((v15==(1:Int))=true→(0:Int)≤0)∧((v15==(1:Int))=true→0 <
      (↑(1:Nat):Int))∧((v15==(1:Int))=true→b16=b16∧0=0)∧((v15==(1:Int))=true→0 < 1)∧∀ (t1:Bool), (t1=if (v15==(1:Int))=true then (0:Int)==(0:Int)&&((if (↑(Int.toNat (IntKind.i64.wrap (IntKind.i64.wrap ((2:Int)+(↑(List.length [(99:UInt8)]):Int)) - (↑(0:Nat):Int)))):Int) < List.getD (keys8 fun (z:Int) ↦ false||decide (z=(2:Int))) 0 (0:Int) then (↑(Int.toNat (IntKind.i64.wrap (IntKind.i64.wrap
      ((2:Int)+(↑(List.length [(99:UInt8)]):Int)) - (↑(0:Nat):Int)))):Int) else List.getD (keys8 fun (z:Int) ↦ false||decide (z=(2:Int))) 0 (0:Int))==(2:Int)&&true) else false)→(t1=true→true=true)∧(t1=true→0≤4294967296)∧(t1=true→(0:Int)≤0∧(0:Int)≤4294967295)∧∀ (s2:List UInt8), s2=putU (uOf ((6:Int), (7:Int), [], (0:Int), (0:Int), (0:Int), [], (0:Int), (3:Int), false, Eng.RowD.mk 0 0 0 0 true fun (x:Nat)
      ↦ ((0:Int), (0:Int), ()), ()))→∀ (t2:Bool), (t2=if t1=true then putU (uOf ((6:Int), (7:Int), [], (0:Int), (0:Int), (0:Int), [], (0:Int), (3:Int), false, Eng.RowD.mk 0 0 0 0 true fun (x:Nat) ↦ ((0:Int), (0:Int), ()), ()))==s2 else false)→(t2=true→1≤1)∧(t2=true→∀ (k4:Nat), k4 < 1→true=true)∧(t2=true→b16=b16∧0=0)∧(t2=true→1≤4294967296)∧(t2=true→(0:Int)≤0∧(0:Int)≤4294967295)∧∀ (s3:List UInt8), s3=putU
      (uOf ((5:Int), (7:Int), [], (0:Int), (0:Int), (0:Int), [], (0:Int), (0:Int), true, Eng.RowD.mk b16 0 1 b17 (decide (1=0)) fun (k:Nat) ↦ ((0:Int), if (↑(Int.toNat (IntKind.i64.wrap (IntKind.i64.wrap ((2:Int)+(↑(List.length [(99:UInt8)]):Int)) - (↑(0:Nat):Int)))):Int) < List.getD (keys8 fun (z:Int) ↦ false||decide (z=(2:Int))) 0 (0:Int) then (↑(Int.toNat (IntKind.i64.wrap (IntKind.i64.wrap
      ((2:Int)+(↑(List.length [(99:UInt8)]):Int)) - (↑(0:Nat):Int)))):Int) else List.getD (keys8 fun (z:Int) ↦ false||decide (z=(2:Int))) 0 (0:Int), ()), ()))→∀ (t3:Bool), (t3=if t2=true then putU (uOf ((5:Int), (7:Int), [], (0:Int), (0:Int), (0:Int), [], (0:Int), (0:Int), !false, Eng.RowD.mk b47 0 (Int.toNat (if 20 < (↑(1:Nat):Int) then (20:Int) else (↑(1:Nat):Int))) b48 (decide (1=0)) fun (k:Nat) ↦
      ((0:Int), if (3:Int) < List.getD (keys8 fun (z:Int) ↦ false||decide (z=(2:Int))) 0 (0:Int) then (3:Int) else List.getD (keys8 fun (z:Int) ↦ false||decide (z=(2:Int))) 0 (0:Int), ()), ()))==s3 else false)→∀ (t4:Bool), (t4=if t3=true then !false else false)→∀ (t5:Bool), (t5=if t4=true then (0:Int)==(0:Int) else false)→∀ (v16:Int), v16=(↑(1:Nat):Int)→∀ (t6:Bool), (t6=if t5=true then v16==(1:Int) else
      false)→(t6=true→(0:Int)≤0)∧(t6=true→0 < (↑(1:Nat):Int))∧(t6=true→b70=b70∧0=0)∧(t6=true→0 < 1)∧∀ (t7:Bool), (t7=if t6=true then (7:Int)==(7:Int)&&((0:Int)==(0:Int)&&([(102:UInt8)]==[(102:UInt8)]&&(s1==[(97:UInt8), (98:UInt8), (99:UInt8)]&&true))) else false)→(t7=true→true=true)∧(t7=true→0≤4294967296)∧(t7=true→(0:Int)≤0∧(0:Int)≤4294967295)∧∀ (s4:List UInt8), s4=putU (uOf ((4:Int), (7:Int), [],
      (0:Int), (0:Int), (0:Int), [], (0:Int), (0:Int), false, Eng.RowD.mk 0 0 0 0 true fun (x:Nat) ↦ ((0:Int), (0:Int), ()), ()))→∀ (t8:Bool), (t8=if t7=true then putU (uOf ((4:Int), (7:Int), [], (0:Int), (0:Int), (0:Int), [], (0:Int), (0:Int), false, Eng.RowD.mk 0 0 0 0 true fun (x:Nat) ↦ ((0:Int), (0:Int), ()), ()))==s4 else false)→∀ (t9:Bool), (t9=if t8=true then (0:Int)==(0:Int) else false)→∀
      (t10:Bool), (t10=if t9=true then (4:Int)==(4:Int) else false)→(t10=true→(false=false→b1=b1∧0=0)∧(b1=b1∧0=0)∧true=true∧∀ (v17:Int), v17=(↑(0:Nat):Int)→∀ (t11:Bool), (t11=if t10=true then v17==(0:Int) else false)→t11=true)∧((t10=true→False)→(t10=true→False)∧((t10=true→False)→(t10=true→False)∧((t10=true→False)→∀ (t11:Bool), (t11=if t10=true then false else
      false)→t11=true))))∧True)∧True)∧True)∧True)∧True)∧True)∧True)∧True)∧True)∧True)∧True)∧True)∧True)∧True)∧True)∧True)∧True)∧True)∧True)∧True)∧True)∧True)∧True)∧True)∧True)∧True)∧True)∧True)∧True)∧True)∧True)∧True) (by kernel_rfl) ?_
  have k0 : (keys8 fun (x : Int) => false) = [] := rfl
  have k2 : (keys8 fun (z : Int) => false || decide (z = 2)) = [2] := rfl
  have g2 : ([2] : List Int).getD 0 0 = 2 := rfl
  have k3 : (keys8 fun (z : Int) => (false || decide (z = 2)) && !decide (z = 2) || decide (z = if (2 : Int) < 0 then 2 else 0)) = [0] := rfl
  have w1 : IntKind.i64.wrap (2 + (([99] : List UInt8).length : Int)) = 3 := rfl
  have w2 : IntKind.i64.wrap (3 - ((0 : Nat) : Int)) = 3 := rfl
  have w3 : IntKind.i64.wrap (0 + ((0 : Nat) : Int)) = 0 := rfl
  have w4 : IntKind.i64.wrap (0 + ((1 : Nat) : Int)) = 1 := rfl
  have w5 : IntKind.i64.wrap (((0 : Nat) : Int) - ((0 : Nat) : Int)) = 0 := rfl
  have w6 : IntKind.i64.wrap (1 - 0) = 1 := rfl
  have w7 : Int.toNat 3 = 3 := rfl
  have w8 : Int.toNat 1 = 1 := rfl
  have w9 : IntKind.i64.wrap (0 + 1) = 1 := rfl
  have w10 : IntKind.i64.wrap (2 - 2) = 0 := rfl
  have w11 : Int.toNat 2 = 2 := rfl
  have w12 : Int.toNat 0 = 0 := rfl
  have r0 : Rising [] ∧ (∀ v1 : Int, false = true ↔ v1 ∈ []) ∧ ∀ v2 : Int, v2 ∈ [] → 0 ≤ v2 ∧ v2 < 65536 := ⟨List.Pairwise.nil, by simp, by simp⟩
  have r2 : Rising [2] ∧ (∀ v1 : Int, (false || decide (v1 = 2)) = true ↔ v1 ∈ [2]) ∧ ∀ v2 : Int, v2 ∈ [2] → 0 ≤ v2 ∧ v2 < 65536 := ⟨List.pairwise_singleton _ _, by simp, by simp⟩
  have r3 : Rising [0] ∧ (∀ v1 : Int, ((false || decide (v1 = 2)) && !decide (v1 = 2) || decide (v1 = if (2 : Int) < 0 then 2 else 0)) = true ↔ v1 ∈ [0]) ∧ ∀ v2 : Int, v2 ∈ [0] → 0 ≤ v2 ∧ v2 < 65536 := ⟨List.pairwise_singleton _ _, by simp, by simp⟩
  simp only [k0, k2, g2, k3, w1, w2, w3, w4, w5, w6, w7, w8, w9, w10, w11, w12]
  have hm : ∀ b : Nat, (match (if b = 1 then 0 else 1 : Nat) with | 0 => 0 | i + 1 => i + 1) ≤ 1 := fun b => by by_cases q : b = 1 <;> simp [q]
  have hb : ∀ b : Nat, 3 ≤ b → (if b = 2 then 0 else 2) = 2 := fun b h => if_neg (by omega)
  repeat' (first | with_reducible exact rfl | exact trivial | with_reducible exact r0 | with_reducible exact r2 | with_reducible exact r3 | refine And.intro ?_ ?_ | with_reducible refine abc_intro ?_ ?_ | intro _)
  all_goals (first | omega | decide | (split <;> first | omega | decide) | (split; · omega; · rename_i q; split at q <;> omega) | skip)
  all_goals (first
    | refine ⟨(_, _, _, _), ⟨trivial, trivial, trivial⟩, ⟨⟨trivial, trivial, trivial, Nat.le_refl _, Nat.le_refl _, Nat.le_refl _⟩, trivial, trivial, trivial, ⟨trivial, trivial, trivial, trivial, trivial, trivial⟩, rfl, rfl, trivial, trivial, rfl, rfl⟩, ⟨⟨rfl, rfl, rfl, Nat.le_refl _, ?_, Nat.le_refl _⟩, fun _ _ => ⟨trivial, rfl, trivial⟩⟩, ⟨⟨rfl, trivial, trivial, Nat.le_refl _, Nat.le_refl _, Nat.le_refl _⟩, trivial, trivial, trivial, trivial, trivial, trivial, trivial, trivial, ⟨trivial, trivial, trivial, trivial, trivial, trivial⟩, SVeq.of_eq rfl, trivial, trivial, trivial, trivial, trivial⟩, ?_, ?_⟩ <;> assumption
    | (refine abc_crc ?_; rw [hb _ (by assumption)]; simp only [ite_self]; kernel_rfl)
    | (rw [hb _ (by assumption)]; simp only [ite_self]; kernel_rfl)
    | (rename_i q1 q2; exact q1 q2)
    | exact hm _
    | (rename_i q2 v17 q1 t11 q3; rw [q3, q2, q1]; rfl)
    | skip)
  rename_i v15 e15 t1 e1 s2 f2 t2 e2 s3 f3 t3 e3 t4 e4 t5 e5 v16 e16 t6 e6 t7 e7 s4 f4 t8 e8 t9 e9 t10 e10 n1 n2 n3 t11 e11
  refine absurd ?_ n1
  have a1 : t1 = true := by rw [e1, e15]; rfl
  have a2 : t2 = true := by rw [e2, a1, if_pos rfl, f2]; exact beq_iff_eq.2 rfl
  have a3 : t3 = true := by rw [e3, a2, if_pos rfl, f3]; exact beq_iff_eq.2 rfl
  have a4 : t4 = true := by rw [e4, a3]; rfl
  have a5 : t5 = true := by rw [e5, a4]; rfl
  have a6 : t6 = true := by rw [e6, a5, e16]; rfl
  have a7 : t7 = true := by rw [e7, a6]; rfl
  have a8 : t8 = true := by rw [e8, a7, if_pos rfl, f4]; exact beq_iff_eq.2 rfl
  have a9 : t9 = true := by rw [e9, a8]; rfl
  rw [e10, a9]
  rfl
end Rc
