/-
  OWN WORK. DownlinkSends: the walk.
-/
import Derived.Test.YtnibcchhhebfaaaGreatDoorQD
import Derived.Test.YtnibcchhhebfaaaGreatDoorQF
import Derived.Test.YtnibcchhhebfaaaGreatDoorQ8
import Derived.Test.YtnibcchhhebfaaaGreatDoorQV
namespace Vt
open Go Go.Proofs Eng
set_option linter.unusedVariables false
set_option linter.unusedSimpArgs false
set_option maxHeartbeats 8000000
set_option maxRecDepth 100000
def unwR := Mk.ecR aUn0 (fun x => [x.1 = blkAB, x.2.1 = 1]) (fun _ (y : Nat × Nat × Nat) => 1 ≤ y.2.2 ∧ y.2.2 ≤ 9223372036854775807) (fun _ y => .tup [.str [97, 98], .slice 0 y.1 y.2.1 [] 1 0 1 y.2.2 false, .int .i64 0])
  (fun _ y => [⟨0, y.1, y.2.1, 1, 1, fun _ => .int .i64 0, true, false, y.2.2, 3, false, none⟩]) 1
theorem unwR_ok : EcOk Tryz.prog 60 unwR := Mk.ecR_of unw0_ok
abbrev aIp : Arg (Nat × Nat × Int) := .ptr 1 (.elt (.int .i64))
abbrev aIp1 : ArgL ((Nat × Nat × Int) × Unit) := .cons aIp .nil
abbrev aCh : Arg (((Nat × Nat × Int) × Unit) × Unit × Unit × ((Nat × Nat × Int) × (Nat × Nat × Int) × Unit) × ((Nat × Nat × Int) × Unit) × Unit) :=
  .agg (.cons (.fnc 53 aIp1) (.cons (.fnc 55 .nil) (.cons (.fnc 56 .nil) (.cons (.fnc 57 (.cons aIp aIp1)) (.cons (.fnc 59 aIp1) .nil)))))
abbrev aFm : ArgL ((((Nat × Nat × Int) × Unit) × Unit × Unit × ((Nat × Nat × Int) × (Nat × Nat × Int) × Unit) × ((Nat × Nat × Int) × Unit) × Unit) × RowD Int × Unit) := .cons aCh (.cons (.row (.int .i64)) .nil)
def frmC := pcOf aFm (fun x => [x.1.2.2.2.1.1.2.2 = 2, x.1.2.2.2.1.2.1.2.2 = 1, x.1.2.2.2.2.1.1.2.2 = 1, clean mAB (x.2.1, 10, ())]) (fun _ => .agg [.str [97, 98], .bool false, .int .i64 0, .int .i64 0])
def EF1 : Env := (((((E0.addQ 4 eqBool).addP 58 (decC mAB)).addP 55 mixA).addP 56 encA).addE 60 unwR).inl 33 Tryz.f33 fun _ _ => rds 3
theorem EF1_ok : EnvOk Tryz.prog EF1 := (((((E0_ok.addQ (eqBool_ok (by kernel_rfl))).addP (dec_ok mAB (by decide))).addP mixA_ok).addP encA_ok).addE unwR_ok).inl _ Tryz.func33 rfl (by kernel_rfl)
def EF2 : Env := (EF1.inl 57 Tryz.f57 fun _ _ => rds 3).inl 59 Tryz.f59 fun _ _ => rds 3
theorem EF2_ok : EnvOk Tryz.prog EF2 := (EF1_ok.inl _ Tryz.func57 rfl (by kernel_rfl)).inl _ Tryz.func59 rfl (by kernel_rfl)
def clOk (k : Nat) : Bool := decide (decide (sft (sym (bitsOf mAB) k) ≥ 0) = (((sAB.getD k 0).toNat : Int) == 1))
theorem cl_all : allB clOk 172 = true := by decide +kernel
theorem frm_ok : PcOk Tryz.prog 41 frmC := by
  refine pcOf_run (fun _ => EF2_ok) Tryz.func41 rfl (by kernel_rfl) (fun x => ⟨(by decide : 2 ≤ 9223372036854775807), rfl, trivial, rfl, trivial, rfl, trivial, rfl, trivial⟩)
    (fun x => [.lp 5 Nat [36] (fun i => [.int .i64 (i : Nat)]) (fun i => i ≤ 172) (fun i => 172 - i), .draw 7 (.take 0 (.take 1 (.take 2 (.take 3 (.take 4 (.take 5 (.take 6 (.take 7 (.take 8 (.take 9 .fin)))))))))) [], .unroll 14 2]) (fun _ => Nat.le_of_ble_eq_true rfl)
    (fun ⟨⟨w, u1, u2, ⟨⟨b2, o2, sz⟩, ⟨b3, o3, dp⟩, u3⟩, ⟨⟨b4, o4, dq⟩, u4⟩, u5⟩, ⟨b, off, n, c, z, f⟩, u6⟩ hp hw => ?_)
  obtain ⟨h1, h2, h3, ⟨p1, p2, p3⟩, _⟩ := hp
  dsimp only at h1 h2 h3 p1 p2 p3
  have p1 : n = 172 := p1
  subst h1 h2 h3 p1
  refine vc_of (q :=
      ∀ (b1 b5:Nat), (b1=b1∧0=0)∧(b2=b2∧o2=o2)∧(b3=b3∧o3=o3)∧172≤172∧(∀ (k1:Nat), k1 < 172→true=true)∧(b=b∧off=off)∧Vt.clean Vt.mAB (Eng.RowD.mk b off 172 c z f, IntKind.i64.wrap ((2:Int)+IntKind.i64.wrap ((8:Int)*(1:Int))), ())∧∀ (s1:List UInt8), s1=Vt.mAB→∀ (v1:Int), v1=Vt.sumAt (Vt.bitsOf Vt.mAB) 86→∀ (v2:Int), v2=0→(b1=b1∧0=0)∧s1=Vt.mAB∧∀ (s2:List UInt8), s2=Vt.sAB→∀ (v3:Int), v3=0→∀ (b6:Nat)
      (v4:Int), v4=(↑(List.length s2):Int)→(∃ (x1:Nat), (0:Int)=(↑x1:Int)∧Nat.le x1 172)∧∀ (b7:Nat), b7≤172→(decide ((↑b7:Int) < v4)=true→(0:Int)≤(↑b7:Int)∧(↑b7:Int) < (↑(172:Nat):Int)∧(b=b∧off=off)∧Int.toNat (↑b7:Int) < 172∧(0:Int)≤(↑b7:Int)∧(↑b7:Int) < (↑(List.length s2):Int)∧((!decide (f (Int.toNat (↑b7:Int))≥(0:Int))==((↑(UInt8.toNat (List.getD s2 (Int.toNat (↑b7:Int))
      0)):Int)==(1:Int)))=true→(b6=b6∧0=0)∧∀ (v5:Int), v5=IntKind.i64.wrap ((0:Int)+(1:Int))→False)∧((!decide (f (Int.toNat (↑b7:Int))≥(0:Int))==((↑(UInt8.toNat (List.getD s2 (Int.toNat (↑b7:Int)) 0)):Int)==(1:Int)))=false→∀ (v6:Int), v6=IntKind.i64.wrap ((↑b7:Int)+(1:Int))→∃ (x2:Nat), v6=(↑x2:Int)∧x2≤172∧172 - x2 < 172 - b7))∧(decide ((↑b7:Int) < v4)=false→(b1=b1∧0=0)∧(s1=Vt.blkAB∨s1=Vt.mAB)∧∀ (s3:List
      UInt8), s3=Vt.mixT s1→∀ (v7:Int), v7=0→(b1=b1∧0=0)∧(b4=b4∧o4=o4)∧true=true∧s3=Vt.blkAB∧(1:Int)=(1:Int)∧∀ (y1:Nat × Nat × Nat), 1≤y1.2.2∧y1.2.2≤9223372036854775807→∀ (s4:List UInt8), s4=[(97:UInt8), (98:UInt8)]→∀ (v8:Int), v8=0→(b6=b6∧0=0)∧(b6=b6∧0=0)∧∀ (v9:Int), v9=(↑(1:Nat):Int)→(decide (0 < v9)=true→(0:Int)≤(0:Int)∧(0:Int) < (↑(1:Nat):Int)∧(y1.1=y1.1∧y1.2.1=y1.2.1)∧0 < 1∧(b6=b6∧0=0)∧∀ (v10:Int),
      (v10=if (0:Int) > (0:Int) then (0:Int) else (0:Int))→∀ (v11:Int), v11=IntKind.i64.wrap ((0:Int)+v10)→(b6=b6∧0=0)∧∀ (v12:Int), v12=IntKind.i64.wrap ((0:Int)+(1:Int))→(decide (v12 < v9)=true→0≤v12∧v12 < (↑(1:Nat):Int)∧(y1.1=y1.1∧y1.2.1=y1.2.1)∧Int.toNat v12 < 1∧(b6=b6∧0=0)∧∀ (v13:Int), (v13=if (0:Int) > (0:Int) then (0:Int) else (0:Int))→∀ (v14:Int), v14=IntKind.i64.wrap (v11+v13)→(b6=b6∧0=0)∧∀
      (v15:Int), v15=IntKind.i64.wrap (v12+(1:Int))→False)∧(decide (v12 < v9)=false→(b6=b6∧0=0)∧(b5=b5∧0=0)∧(b5=b5∧0=0)∧s4=[(97:UInt8), (98:UInt8)]∧(v8 != (0:Int))=false∧v11=0∧(0:Int)=(0:Int)))∧(decide (0 < v9)=false→(b6=b6∧0=0)∧(b5=b5∧0=0)∧(b5=b5∧0=0)∧s4=[(97:UInt8), (98:UInt8)]∧(v8 != (0:Int))=false∧(0:Int)=(0:Int)∧(0:Int)=(0:Int)))) (by kernel_rfl) ?_
  try simp only [eq_self, true_and, and_true, Nat.le_refl, implies_true, forall_const, Bool.false_eq_true, Bool.true_eq_false, reduceCtorEq, false_imp_iff, true_imp_iff, Int.toNat_zero, Int.toNat_natCast, Nat.zero_lt_one, Int.le_refl, allGet]
  have hcl : ∀ k, k < 172 → f k = sft (sym (bitsOf mAB) k) := p3
  have hl : sAB.length = 172 := by decide +kernel
  have hq : IntKind.i64.wrap (2 + IntKind.i64.wrap (8 * 1)) = (mAB.length : Nat) := by decide +kernel
  refine ⟨⟨rfl, hq, p3⟩, fun s1 e1 v1 _ v2 _ => ⟨e1, fun s2 e2 v3 _ v4 e4 => ⟨⟨0, rfl, Nat.zero_le _⟩, fun i hi => ?_⟩⟩⟩
  subst e2
  refine ⟨fun hlt => ?_, fun hge => ⟨.inr e1, fun s3 e3 v5 _ => ⟨by rw [e3, e1]; decide, fun y1 hy1 s4 e4 v6 e6 v7 e7 => ?_⟩⟩⟩
  · have hlt := of_decide_eq_true hlt
    have hi2 : i < 172 := by omega
    refine ⟨by omega, by omega, by omega, by omega, by omega, fun h => ?_, fun h v6 h6 => ⟨i + 1, h6.trans (l_succ (by omega)), by omega, by omega⟩⟩
    have := of_decide_eq_true (allB_true cl_all i hi2)
    rw [← hcl i hi2] at this
    have e : decide (f i ≥ 0) = (((sAB.getD i 0).toNat : Int) == 1) := this
    have h : (!decide (f i ≥ 0) == (((sAB.getD i 0).toNat : Int) == 1)) = true := h
    rw [e] at h
    simp at h
  · refine ⟨fun h => ⟨by decide, fun v8 h8 v9 h9 v10 h10 => ⟨fun h' => ?_, fun h' => ⟨e4, by rw [e6]; rfl, by rw [h9, h8]; decide⟩⟩⟩, fun h => ?_⟩
    · rw [h10, e7] at h'; exact absurd h' (by decide)
    · rw [e7] at h; exact absurd h (by decide)
end Vt
namespace Vt
open Go Go.Proofs Eng
set_option linter.unusedVariables false
set_option linter.unusedSimpArgs false
set_option maxHeartbeats 8000000
set_option maxRecDepth 100000
def softA := Mk.ecR aS (fun x => [x.1 = atAB]) (fun x (y : Nat × Nat × Nat) => 204 ≤ y.2.2) (fun x y => .tup [.slice 0 y.1 y.2.1 [] 1 0 204 y.2.2 false, .int .i64 0]) (fun x y => [⟨0, y.1, y.2.1, 1, 204, fun k => .int .i64 (Mk.softF atAB k), true, false, y.2.2, 3, false, none⟩]) 1
theorem softA_ok : EcOk Tryz.prog 45 softA := by
  refine Mk.ecR_of (Mk.ecC_less Mk.soften_ok fun x hp => ?_)
  obtain ⟨s, _⟩ := x
  obtain ⟨h1, _⟩ := hp
  dsimp only at h1
  subst h1
  have hl : atAB.length = 204 := by decide +kernel
  refine ⟨⟨(by decide +kernel : Mk.listB atAB = true), by show atAB.length ≤ 40000; omega, by show 0 < atAB.length; omega, trivial⟩, fun y hy => ⟨y, by rw [← hl]; exact hy, ?_, ?_⟩⟩
  · show SV.tup [.slice 0 y.1 y.2.1 [] 1 0 atAB.length y.2.2 false, .int .i64 0] = _
    rw [hl]
  · show ([⟨0, y.1, y.2.1, 1, atAB.length, fun k => .int .i64 (Mk.softF atAB k), true, false, y.2.2, 3, false, none⟩] : Hp) = _
    rw [hl]
theorem wrap_ab : Galois.wrapL [97, 98] 1 = blkAB := by
  unfold Galois.wrapL Galois.wF Galois.parJ Galois.parP Galois.parR
  rw [Galois.gpoly_eq]
  decide +kernel
theorem send_ab : sendS [97, 98] 1 = atAB := by
  unfold sendS
  rw [if_pos (by decide), wrap_ab, mix_ab, enc_ab, att_ab]
def sendAB := pcOf aSI (fun x => [x.1 = [97, 98], x.2.1 = 1]) (fun _ => .tup [.str atAB, .int .i64 0])
theorem sendAB_ok : PcOk Tryz.prog 12 sendAB := pc_less send_ok fun x hp => by
  obtain ⟨s, d, u⟩ := x
  obtain ⟨h1, h2, _⟩ := hp
  dsimp only at h1 h2
  subst h1 h2
  refine ⟨trivial, ?_⟩
  show SV.tup [.str (sendS [97, 98] 1), .int .i64 (sendE [97, 98] 1)] = _
  rw [send_ab]
  rfl
def symA := pcOf aI (fun x => [x.1 = 10]) (fun _ => .int .i64 172)
theorem symA_ok : PcOk Tryz.prog 32 symA := pc_less syms_ok fun x hp => by
  obtain ⟨n, u⟩ := x
  obtain rfl : n = 10 := hp.1
  exact ⟨trivial, rfl⟩
def EW1 : Env := (((((Mk.EA2.addP 12 sendAB).addP 10 dsymC).addE 45 softA).addP 41 frmC).addP 32 symA).addQ 36 eqPt
theorem EW1_ok : EnvOk Tryz.prog EW1 := (((((Mk.EA2_ok.addP sendAB_ok).addP dsym_ok).addE softA_ok).addP frm_ok).addP symA_ok).addQ (eqPt_ok (by kernel_rfl))
def EW2 : Env := (((EW1.inl 30 Tryz.f30 fun _ _ => rds 3).inl 33 Tryz.f33 fun _ _ => rds 3).inl 35 Tryz.f35 fun _ _ => rds 3).inl 15 Tryz.f15 fun _ _ => rds 8
theorem EW2_ok : EnvOk Tryz.prog EW2 := (((EW1_ok.inl _ Tryz.func30 rfl (by kernel_rfl)).inl _ Tryz.func33 rfl (by kernel_rfl)).inl _ Tryz.func35 rfl (by kernel_rfl)).inl _ Tryz.func15 rfl (by kernel_rfl)
def EW3 : Env := (((EW2.inl 23 Tryz.f23 fun _ _ => []).addP 44 Mk.lockedC).inl 18 Tryz.f18 fun _ _ => .unroll 6 2 :: .draw 8 (.take 0 (.take 1 (.take 2 (.take 3 (.take 4 (.take 5 (.take 6 (.br 7 (.br 8 (.br 9 (.take 10 .fin) .stop) .stop) .stop)))))))) [] :: .raw 0 :: .det 0 :: rds 10).inl 21 Tryz.f21 fun _ _ => []
theorem EW3_ok : EnvOk Tryz.prog EW3 := (((EW2_ok.inl _ Tryz.func23 rfl (by kernel_rfl)).addP Mk.locked_ok).inl _ Tryz.func18 rfl (by kernel_rfl)).inl _ Tryz.func21 rfl (by kernel_rfl)
def EW : Env := EW3.addQ 57 (eqStruct [.str, .bool, .int .i64, .int .i64])
theorem EW_ok : EnvOk Tryz.prog EW := EW3_ok.addQ (eqStruct_ok (by kernel_rfl) (by kernel_rfl) (by kernel_rfl) (by kernel_rfl))
def ck2 (k : Nat) : Bool := decide (Mk.softF atAB (31 + 1 + k) = sft (sym (bitsOf mAB) k))
theorem ck2_all : allB ck2 172 = true := by decide +kernel
def awakeC := pcOf .nil (fun _ => []) (fun _ => .bool true)
theorem awake_ok : PcOk Tryz.prog 9 awakeC := by
  refine pcOf_run (fun _ => EW_ok) Tryz.func9 rfl (by kernel_rfl) (fun x => trivial)
    (fun x => rds 7) (fun _ => Nat.le_of_ble_eq_true rfl) (fun () hp hw => ?_)
  refine vc_of (q :=
      [(97:UInt8), (98:UInt8)]=[(97:UInt8), (98:UInt8)]∧(1:Int)=(1:Int)∧IntKind.i64.wrap ((2:Int)+IntKind.i64.wrap ((8:Int)*(1:Int)))=(10:Int)∧∀ (b1 b2 b3 b4 b5:Nat), (b5=b5∧0=0)∧(b5=b5∧0=0)∧∀ (b6:Nat), Vt.atAB=Vt.atAB∧∀ (y1:Nat × Nat × Nat), 204≤y1.2.2→∀ (v1:Int), v1=0→(b6=b6∧0=0)∧(b2=b2∧0=0)∧(b1=b1∧0=0)∧204≤204∧(∀ (k1:Nat), k1 < 204→true=true)∧(y1.1=y1.1∧y1.2.1=y1.2.1)∧∀ (t1:Bool), t1=!Mk.softB
      (Mk.softF Vt.atAB) 204→(t1=true→(if (if (if ((2:Int)==(0:Int))=true then false else false)=true then false else false)=true then false else false)=true)∧(t1=false→(∀ (b7:Nat), ∃ (x1:Nat), (0=0∧b7=x1∧0=0)∧((b7=x1∧0=0∧false=false∧1≤1∧1≤1∧1≤1)∧0=0∧0=0∧0=0∧0=0∧0=0∧true=true)∧True)∧∀ (b8:Nat),
      True→(b2=b2∧0=0)∧(b2=b2∧0=0)∧true=true∧1632≤140737488355328∧204≤9223372036854775807∧204≤204∧(y1.1=y1.1∧y1.2.1=y1.2.1)∧∀ (b9 b10:Nat), 204≤b10→b10≤9223372036854775807→(204=0→b10=0)→(b2=b2∧0=0)∧(b2=b2∧0=0)∧(b1=b1∧0=0)∧∀ (v2:Int), v2=(↑(204:Nat):Int)→∀ (v3:Int), v3=IntKind.i64.wrap ((0:Int)+v2)→(b1=b1∧0=0)∧(b2=b2∧0=0)∧(b2=b2∧0=0)∧(b1=b1∧0=0)∧(b9=b9∧0=0)∧(0=0∧∀ (k2:Nat), k2 < 204→true=true)∧Mk.FD.ok
      (b2, 0, (b1, 0, v3, false, ()), (172:Int), Eng.OwnD.mk b9 0 204 b10 (decide (204=0)) 204 b10 (decide (204=0)) (Mk.softF Vt.atAB), (0:Int), false, (0:Int), (0:Int), (b8, 0), ())∧false=false∧32≤204∧Mk.wrA (Mk.softF Vt.atAB) 0≤2∧∀ (y2:Unit), True→(b2=b2∧0=0)∧(b2=b2∧0=0)∧(b2=b2∧0=0)∧(b2=b2∧0=0)∧(b2=b2∧0=0)∧(b2=b2∧0=0)∧(b2=b2∧0=0)∧(0:Int)≤IntKind.i64.wrap ((32:Int)+(172:Int))∧IntKind.i64.wrap
      ((32:Int)+(172:Int))≤(↑b10:Int)∧(0:Int)≤(32:Int)∧(32:Int)≤IntKind.i64.wrap ((32:Int)+(172:Int))∧((match if b10=Int.toNat (32:Int) then 0 else 32 with | 0 => 172 | Nat.succ i => i+1+172)≤204∧(∀ (k3:Nat), k3 < 172→true=true)∧(b9=b9∧0=0)∧decide (204=0)=false∧1376≤140737488355328∧∀ (y3:Nat × Nat × Nat), 172≤y3.2.2∧y3.2.2≤9223372036854775807→(∀ (b11:Nat), (b8=b8∧0=0)∧(b11=b11∧0=0)∧∀ (b12:Nat),
      true=true∧40≤140737488355328∧1≤9223372036854775807∧1≤1∧(b12=b12∧0=0)∧∀ (b13 b14:Nat), 1≤b14→b14≤9223372036854775807→(1=0→b14=0)→(b8=b8∧0=0)∧(b2=b2∧0=0)∧(b2=b2∧0=0)∧(b1=b1∧0=0)∧(b9=b9∧0=0)∧(0=0∧∀ (k4:Nat), k4 < 204→true=true)∧((0:Int)≤IntKind.i64.wrap ((32:Int)+(172:Int))∧IntKind.i64.wrap ((32:Int)+(172:Int))≤(↑(204:Nat):Int))∧Mk.FD.ok (b2, 0, (b1, 0, v3, true, ()), (172:Int), Eng.OwnD.mk b9 0 204
      b10 (decide (204=0)) 204 b10 (decide (204=0)) fun (k:Nat) ↦ if k < 204 then Mk.softF Vt.atAB k else Mk.softF Vt.atAB k, (0:Int)+(↑(0:Nat):Int), false, (↑(Mk.wrA (fun (i:Nat) ↦ if i < 204 then Mk.softF Vt.atAB i else Mk.softF Vt.atAB i) 0):Int), (0:Int), (b8, 0), ())∧∀ (y4:Unit), True→(b2=b2∧0=0)∧(b2=b2∧0=0)∧(b1=b1∧0=0)∧(b9=b9∧0=0)∧(0=0∧∀ (k5:Nat), k5 < 204→true=true)∧Mk.FD.ok (b2, 0, (b1, 0, v3,
      true, ()), (172:Int), Eng.OwnD.mk b9 0 0 b10 (decide (204=0)) 204 b10 (decide (204=0)) fun (k:Nat) ↦ if k < 0 then if k+Int.toNat (IntKind.i64.wrap ((32:Int)+(172:Int))) < 204 then Mk.softF Vt.atAB (k+Int.toNat (IntKind.i64.wrap ((32:Int)+(172:Int)))) else Mk.softF Vt.atAB (k+Int.toNat (IntKind.i64.wrap ((32:Int)+(172:Int)))) else if k < 204 then Mk.softF Vt.atAB k else Mk.softF Vt.atAB k,
      (0:Int)+(↑(0:Nat):Int)+(↑(Int.toNat (IntKind.i64.wrap ((32:Int)+(172:Int)))):Int), false, (↑(Mk.wrA (fun (i:Nat) ↦ if i < 204 then Mk.softF Vt.atAB i else Mk.softF Vt.atAB i) 0):Int), (0:Int), (b8, 0), ())∧true=true∧(0:Int) < (3:Int)∧0 < 32∧∀ (y5:Unit), True→(b8=b8∧0=0)∧(0:Int)≤(0:Int)∧(0:Int) < (↑(1:Nat):Int)∧(b13=b13∧0=0)∧0 < 1∧∀ (b15:Nat),
      (b15=b15∧0=0)∧(b6=b6∧0=0)∧(b15=b15∧0=0)∧((b4=b4∧0=0)∧(b3=b3∧0=0)∧(b4=b4∧0=0)∧(b4=b4∧0=0)∧172≤172∧(∀ (k6:Nat), k6 < 172→true=true)∧(y3.1=y3.1∧y3.2.1=y3.2.1)∧(2:Int)=(2:Int)∧(1:Int)=(1:Int)∧(1:Int)=(1:Int)∧Vt.clean Vt.mAB (Eng.RowD.mk y3.1 y3.2.1 172 y3.2.2 false fun (k:Nat) ↦ if (match if b10=Int.toNat (32:Int) then 0 else 32 with | 0 => k | Nat.succ i => i+1+k) < 204 then Mk.softF Vt.atAB
      (match if b10=Int.toNat (32:Int) then 0 else 32 with | 0 => k | Nat.succ i => i+1+k) else Mk.softF Vt.atAB (match if b10=Int.toNat (32:Int) then 0 else 32 with | 0 => k | Nat.succ i => i+1+k), (10:Int), ())∧(∀ (b16:Nat), (true=true∧40≤140737488355328∧1≤9223372036854775807∧1≤1∧(b16=b16∧0=0)∧∀ (b17 b18:Nat), 1≤b18→b18≤9223372036854775807→(1=0→b18=0)→((if ((0:Int)==(0:Int))=true then
      (↑(1:Nat):Int)==(1:Int) else false)=true→(0:Int)≤(0:Int))∧((if ((0:Int)==(0:Int))=true then (↑(1:Nat):Int)==(1:Int) else false)=true→(0:Int) < (↑(1:Nat):Int))∧((if ((0:Int)==(0:Int))=true then (↑(1:Nat):Int)==(1:Int) else false)=true→b17=b17∧0=0)∧((if ((0:Int)==(0:Int))=true then (↑(1:Nat):Int)==(1:Int) else false)=true→0 <
      1)∧((!false)=true→b6=b6∧0=0)∧((!false)=true→b2=b2∧0=0)∧((!false)=true→b1=b1∧0=0)∧∀ (t2:Bool), t2=true→∀ (t3:Bool), (t3=if (!false)=true then t2 else false)→(if (if (if ((0:Int)==(0:Int))=true then (↑(1:Nat):Int)==(1:Int) else false)=true then [(97:UInt8), (98:UInt8)]==[(97:UInt8), (98:UInt8)]&&(false==false&&((0:Int)==(0:Int)&&((0:Int)==(0:Int)&&true))) else false)=true then t3 else
      false)=true)∧True)∧True)∧True)∧True)∧True)) (by kernel_rfl) ?_
  try simp only [eq_self, true_and, and_true, Nat.le_refl, implies_true, forall_const, Bool.false_eq_true, Bool.true_eq_false, reduceCtorEq, false_imp_iff, true_imp_iff, Int.toNat_zero, Int.toNat_natCast, Nat.zero_lt_one, Int.le_refl, allGet]
  have w204 : IntKind.i64.wrap (32 + 172) = 204 := by decide +kernel
  refine ⟨by decide +kernel, fun b1 b2 y1 hy1 v1 _ t1 ht1 => ⟨fun h => ?_, fun _ => ⟨fun b7 => ⟨b7, rfl, rfl⟩, fun b8 => ⟨by omega, by omega, fun b9 b10 h9 h10 v2 hv2 v3 hv3 => ?_⟩⟩⟩⟩
  · rw [ht1] at h; exact absurd h (by decide +kernel)
  have h32 : (if b10 = Int.toNat 32 then 0 else 32) = 32 := if_neg (by show ¬ b10 = 32; omega)
  rw [w204, h32]
  clear ht1
  have hm10 : (10 : Int) = (mAB.length : Nat) := by decide +kernel
  refine ⟨⟨⟨Nat.le_refl _, h9, h9, Nat.le_refl _⟩, fun h => h, of_decide_eq_true rfl, of_decide_eq_true rfl, of_decide_eq_true rfl, of_decide_eq_true rfl⟩, by omega, by decide +kernel, by omega, by omega, by omega, by omega, by decide, by decide, by omega, fun y3 hy3 => ⟨by omega, by omega, fun b14 h14 h14' => ⟨⟨by omega, by decide⟩, ⟨⟨Nat.le_refl _, h9, h9, Nat.le_refl _⟩, fun h => h, of_decide_eq_true rfl, of_decide_eq_true rfl, of_decide_eq_true rfl, of_decide_eq_true rfl⟩, ⟨⟨Nat.zero_le _, h9, Nat.zero_le _, Nat.le_refl _⟩, fun h => h, of_decide_eq_true rfl, of_decide_eq_true rfl, of_decide_eq_true rfl, of_decide_eq_true rfl⟩, by omega, by omega, by omega, ⟨rfl, hm10, fun k hk => ?_⟩, by omega, by omega, fun b18 h18 h18' => ?_⟩⟩⟩
  · show (if 31 + 1 + k < 204 then Mk.softF atAB (31 + 1 + k) else Mk.softF atAB (31 + 1 + k)) = _
    rw [ite_self]
    exact of_decide_eq_true (allB_true ck2_all k hk)
  · refine ⟨fun _ => by decide, fun t2 h2 t3 h3 => ?_⟩
    subst h2 h3
    decide
end Vt
namespace Vt
open Go Go.Proofs Eng
set_option linter.unusedVariables false
set_option linter.unusedSimpArgs false
set_option maxHeartbeats 8000000
set_option maxRecDepth 100000
def EDR : Env := (E0.addP 29 possC).inl 34 Tryz.f34 fun _ _ => []
theorem EDR_ok : EnvOk Tryz.prog EDR := (E0_ok.addP possR_ok).inl _ Tryz.func34 rfl (by kernel_rfl)
theorem dsymR_ok : PcOk Tryz.prog 11 dsymC := by
  refine pcOf_run (fun _ => EDR_ok) Tryz.func11 rfl (by kernel_rfl) (fun _ => ⟨trivial, trivial, trivial⟩)
    (fun x => []) (fun _ => Nat.le_of_ble_eq_true rfl) (fun ⟨n, d, ()⟩ hp hw => ?_)
  refine vc_of (q :=
      ∀ (t1:Bool), t1=Vt.posB n d→((!t1)=true→((0:Int)=if Vt.posB n d=true then (16:Int)*(n+(8:Int)*d)+(44:Int) else (0:Int))∧(2:Int)=if Vt.posB n d=true then (0:Int) else (2:Int))∧((!t1)=false→∀ (v1:Int), v1=IntKind.i64.wrap ((8:Int)*d)→∀ (v2:Int), v2=IntKind.i64.wrap (n+v1)→∀ (v3:Int), v3=IntKind.i64.wrap ((16:Int)*v2)→∀ (v4:Int), v4=IntKind.i64.wrap (v3+(12:Int))→∀ (v5:Int), v5=v4→∀ (v6:Int),
      v6=IntKind.i64.wrap ((32:Int)+v5)→(v6=if Vt.posB n d=true then (16:Int)*(n+(8:Int)*d)+(44:Int) else (0:Int))∧(0:Int)=if Vt.posB n d=true then (0:Int) else (2:Int))) (by kernel_rfl) ?_
  try simp only [eq_self, true_and, and_true, Nat.le_refl, implies_true, forall_const, Bool.false_eq_true, Bool.true_eq_false, reduceCtorEq, false_imp_iff, true_imp_iff, Int.toNat_zero, Int.toNat_natCast, Nat.zero_lt_one, Int.le_refl, allGet]
  intro t1 h1
  subst h1
  refine ⟨fun q => ?_, fun q v1 h1 v2 h2 v3 h3 v4 h4 v5 h5 v6 h6 => ?_⟩
  · have q : posB n d = false := by simpa using q
    simp [q]
  · have q : posB n d = true := by simpa using q
    obtain ⟨a, b, c, e⟩ := posB_iff.1 q
    rw [w64_id (by omega) (by omega)] at h1
    subst h1
    rw [w64_id (by omega) (by omega)] at h2
    subst h2
    rw [w64_id (by omega) (by omega)] at h3
    subst h3
    rw [w64_id (by omega) (by omega)] at h4
    subst h4 h5
    rw [w64_id (by omega) (by omega)] at h6
    rw [if_pos q, if_pos q]
    exact ⟨by omega, rfl⟩
noncomputable def ELS : Env := ((((E0.addP 10 dsymC).addP 11 dsymC).addP 12 sendC).addP 13 sendC).addP 9 awakeC
theorem ELS_ok : EnvOk Tryz.prog ELS := ((((E0_ok.addP dsym_ok).addP dsymR_ok).addP send_ok).addP sendR_ok).addP awake_ok
abbrev aSnd : ArgL (List UInt8 × Int × Int × Unit) := .cons (.elt .str) (.cons (.elt (.int .i64)) (.cons (.elt (.int .i64)) .nil))
abbrev SndIn (x : List UInt8 × Int × Int × Unit) : Prop := x.1.length ≤ 140737488351232 ∧ inKind .i64 x.2.1 ∧ inKind .i64 x.2.2.1 ∧ True
theorem snd_walk : ∀ (x : List UInt8 × Int × Int × Unit) (hR : SndIn x) (hw : ∀ v ∈ aSnd.svs 0 x, v.wf), exCode ELS Tryz.f3.ntmps [] (match Tryz.f3.body with | some c => c | none => .skip) (argFr 0 (aSnd.svs 0 x)) (aSnd.hp 0 x) aSnd.tags (atEnd ELS Tryz.f3.results.toList fun r _ _ => eqv r (.bool true)) := by
  refine fun ⟨s, n, d, ()⟩ hR hw => ?_
  refine vc_of (q :=
      ∀ (v1:Int), v1=(↑(List.length s):Int)→(decide (v1 > (1000:Int))=true→∀ (t1:Bool), t1=true→t1=true)∧(decide (v1 > (1000:Int))=false→∀ (v2:Int), (v2=if Vt.posB n d=true then (16:Int)*(n+(8:Int)*d)+(44:Int) else (0:Int))→∀ (v3:Int), (v3=if Vt.posB n d=true then (0:Int) else (2:Int))→∀ (v4:Int), (v4=if Vt.posB n d=true then (16:Int)*(n+(8:Int)*d)+(44:Int) else (0:Int))→∀ (v5:Int), (v5=if Vt.posB n
      d=true then (0:Int) else (2:Int))→∀ (s1:List UInt8), s1=Vt.sendS s d→∀ (v6:Int), v6=Vt.sendE s d→∀ (s2:List UInt8), s2=Vt.sendS s d→∀ (v7:Int), v7=Vt.sendE s d→∀ (t2:Bool), (t2=if (v2==v4)=true then v3==v5 else false)→∀ (t3:Bool), (t3=if t2=true then s1==s2 else false)→∀ (t4:Bool), (t4=if t3=true then v6==v7 else false)→∀ (t5:Bool), t5=true→∀ (t6:Bool), (t6=if t4=true then t5 else false)→t6=true)) (by kernel_rfl) ?_
  try simp only [eq_self, true_and, and_true, Nat.le_refl, implies_true, forall_const, Bool.false_eq_true, Bool.true_eq_false, reduceCtorEq, false_imp_iff, true_imp_iff, Int.toNat_zero, Int.toNat_natCast, Nat.zero_lt_one, Int.le_refl, allGet]
  intro v1 _
  refine ⟨fun _ t h => h, fun _ v2 e2 v3 e3 v4 e4 v5 e5 s1 e6 v6 e7 s2 e8 v7 e9 t2 e10 t3 e11 t4 e12 t5 e13 t6 e14 => ?_⟩
  rw [e2, e4] at e10
  rw [e3, e5] at e10
  rw [e6, e8, e10] at e11
  rw [e7, e9, e11] at e12
  rw [e14, e12, e13]
  simp
/-! ### the arguments, opened -/
def plainTy (P : Program) (t : TypeId) : Bool := match P.underlying t with
  | some (.struct _) => false
  | some (.array _ _) => false
  | _ => true
theorem notStruct {P : Program} {t : TypeId} (h : plainTy P t = true) : ∀ fs, P.underlying t ≠ some (.struct fs) := by
  intro fs hh; unfold plainTy at h; rw [hh] at h; cases h
theorem notArray {P : Program} {t : TypeId} (h : plainTy P t = true) : ∀ n e, P.underlying t ≠ some (.array n e) := by
  intro n e hh; unfold plainTy at h; rw [hh] at h; cases h
section
variable {H : Type} {enc : TypeId × Value → H}
theorem sndTop (W : World) (base : Nat) : OpTop enc Tryz.prog W base Tryz.f3.params.toList aSnd SndIn :=
  .cons (.elt (ct := [9]) (.str (by kernel_rfl) (by kernel_rfl)) (by kernel_rfl)) (.inr ⟨notStruct (by kernel_rfl), notArray (by kernel_rfl), rfl, fun _ _ => rfl⟩)
    (.cons (.elt (ct := [3]) (.int (by kernel_rfl) (by kernel_rfl)) (by kernel_rfl)) (.inr ⟨notStruct (by kernel_rfl), notArray (by kernel_rfl), rfl, fun _ _ => rfl⟩)
    (.cons (.elt (ct := [3]) (.int (by kernel_rfl) (by kernel_rfl)) (by kernel_rfl)) (.inr ⟨notStruct (by kernel_rfl), notArray (by kernel_rfl), rfl, fun _ _ => rfl⟩) .nil))
end
end Vt
