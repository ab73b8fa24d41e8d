/-
  OWN WORK. Downlink: the receiver's Feed of one frame's values.
-/
import Derived.Test.YtnibcchhhebfaaaGreatDoorQV
import Derived.Test.YtnibcchhhebfaaaGreatDoorRD
import Derived.Test.YtnibcchhhebfaaaGreatDoorR8
import Derived.Test.YtnibcchhhebfaaaGreatDoorQF
import Derived.Test.YtnibcchhhebfaaaGreatDoorQX
namespace Vt
open Go Go.Proofs Eng
open Galois (partN partL partN_iff partN_le partL_len bof_congr pt_beq wB wrapL wF parJ encL parP revL wB_false partN_ok encL_of wF_at parJ_len)
set_option linter.unusedVariables false
set_option linter.unusedSimpArgs false
set_option maxRecDepth 100000
/-- Mix inverts itself. -/
theorem mix_mix {p : List UInt8} (h : p.length ≤ 3000) : Mk.mixS (Mk.mixS p) = p := by
  have h1 : Mk.mixS p = Byt.of (Mk.mixF p) p.length := if_neg (by omega)
  have hl : (Mk.mixS p).length = p.length := by rw [h1, Mk.bytof_len]
  rw [Mk.mixS, if_neg (by omega), hl]
  refine Galois.bytof_self rfl fun k hk => ?_
  have lr := Mk.reg_lt (8 * k)
  have lu := Mk.u8_lt (p.getD k 0)
  have e : (((Mk.mixS p).getD k 0).toNat : Int) = Mk.mixF p k := by
    rw [h1]
    exact Mk.bytof_getD hk (by unfold Mk.mixF; omega) (by unfold Mk.mixF; have := Mk.xor_lt lu lr; omega)
  have e' : ((Mk.mixS p).getD k 0).toNat = Nat.xor (p.getD k 0).toNat (Mk.reg (8 * k)) := by unfold Mk.mixF at e; omega
  unfold Mk.mixF
  rw [e']
  have : Nat.xor (Nat.xor (p.getD k 0).toNat (Mk.reg (8 * k))) (Mk.reg (8 * k)) = (p.getD k 0).toNat := by
    show ((p.getD k 0).toNat ^^^ Mk.reg (8 * k)) ^^^ Mk.reg (8 * k) = _
    rw [Nat.xor_assoc, Nat.xor_self, Nat.xor_zero]
  rw [this]
theorem wrapL_of {d : List UInt8} {n : Int} (h : wB d n = false) : wrapL d n = d ++ Byt.of (wF d n.toNat) (8 * n.toNat) := by
  unfold wrapL
  rw [h]
  rfl
theorem bofl_len (f : Nat → Int) (n : Nat) : (Byt.of f n).length = n := by simp [Byt.of]
/-- Each part of what Wrap wrote is a code word. -/
theorem wrap_word {d : List UInt8} {n : Int} (h : wB d n = false) {j : Nat} (hj : j < n.toNat) : uW (wrapL d n) n.toNat j = encL (partL d j n.toNat) := by
  obtain ⟨g1, g2, g3, g4⟩ := wB_false h
  obtain ⟨q1, q2⟩ := partN_ok (k := j) h (by omega)
  rw [encL_of q1 q2, wrapL_of h]
  have hl : (d ++ Byt.of (wF d n.toNat) (8 * n.toNat)).length - 8 * n.toNat = d.length := by rw [List.length_append, bofl_len]; omega
  unfold uW
  rw [hl, List.take_left, List.drop_left]
  congr 1
  show Byt.of _ (partN (Byt.of (wF d n.toNat) (8 * n.toNat)).length j n.toNat) = parJ d n.toNat j
  rw [bofl_len, partN_8 hj]
  refine Galois.bytof_self (parJ_len d n.toNat j) fun k hk => ?_
  have hb : ((Byt.of (wF d n.toNat) (8 * n.toNat)).getD (j + k * n.toNat) 0) = (parJ d n.toNat j).getD k 0 := by
    have hlt : j + k * n.toNat < 8 * n.toNat := by
      have : k * n.toNat ≤ 7 * n.toNat := Nat.mul_le_mul_right _ (by omega)
      omega
    unfold Byt.of
    rw [List.getD_eq_getElem?_getD, List.getElem?_map, List.getElem?_range hlt]
    show UInt8.ofNat (wF d n.toNat (j + k * n.toNat)).toNat = _
    rw [Nat.add_comm, wF_at d hj, Int.toNat_natCast]
    exact UInt8.ofNat_toNat
  rw [hb]
theorem wrap_len {f : List UInt8} {d : Int} (h : posB f.length d = true) : (wrapL f d).length = f.length + 8 * d.toNat := by
  rw [wrapL_of (by rw [wB_pos, h]; rfl), List.length_append, bofl_len]
theorem wrap_cwA {f : List UInt8} {d : Int} (h : posB f.length d = true) : cwA (wrapL f d) d := by
  have hw : wB f d = false := by rw [wB_pos, h]; rfl
  obtain ⟨a, b, c, e⟩ := posB_iff.1 h
  refine ⟨?_, fun j hj => ?_⟩
  · unfold uB
    rw [wrap_len h]
    simp only [Bool.or_eq_false_iff, decide_eq_false_iff_not]
    omega
  · obtain ⟨q1, q2⟩ := partN_ok (k := j) hw (by omega)
    have hl : (encL (partL f j d.toNat)).length = (partL f j d.toNat).length + 8 := by
      rw [encL_of q1 q2, List.length_append, Galois.revL_len, Galois.parP_len]
    rw [wrap_word hw hj]
    refine ⟨by omega, by omega, ?_⟩
    rw [hl, Nat.add_sub_cancel]
    have : (encL (partL f j d.toNat)).take (partL f j d.toNat).length = partL f j d.toNat := by
      rw [encL_of q1 q2, List.take_left]
    rw [this]
theorem wrap_take {f : List UInt8} {d : Int} (h : posB f.length d = true) : (wrapL f d).take ((wrapL f d).length - 8 * d.toNat) = f := by
  rw [wrap_len h, Nat.add_sub_cancel, wrapL_of (by rw [wB_pos, h]; rfl), List.take_left]
/-- What is encoded. -/
noncomputable def mOf (f : List UInt8) (d : Int) : List UInt8 := Mk.mixS (wrapL f d)
theorem mOf_len {f : List UInt8} {d : Int} (h : posB f.length d = true) : (mOf f d).length = f.length + 8 * d.toNat := by
  obtain ⟨a, b, c, e⟩ := posB_iff.1 h
  have hl := wrap_len h
  unfold mOf Mk.mixS
  rw [if_neg (by omega), Mk.bytof_len, hl]
theorem mOf_mix {f : List UInt8} {d : Int} (h : posB f.length d = true) : Mk.mixS (mOf f d) = wrapL f d := by
  obtain ⟨a, b, c, e⟩ := posB_iff.1 h
  have hl := wrap_len h
  exact mix_mix (by omega)
/-- How many of the first n values are inverted. -/
def flN (bt : Nat → Nat) (f : Nat → Int) : Nat → Nat
  | 0 => 0
  | k + 1 => flN bt f k + fl bt f k
theorem erN_fl (bt : Nat → Nat) (f : Nat → Int) : ∀ i, erN bt f i = flN bt f (2 * i)
  | 0 => rfl
  | i + 1 => by
    rw [show 2 * (i + 1) = 2 * i + 1 + 1 by omega]
    simp only [erN, flN, erN_fl bt f i]
    omega
theorem flN_le (bt : Nat → Nat) (f : Nat → Int) : ∀ n, flN bt f n ≤ n
  | 0 => Nat.le_refl _
  | n + 1 => by
    have := flN_le bt f n
    simp only [flN, fl]
    split <;> omega
theorem encS_get {m : List UInt8} (hm : m.length ≤ 1100) {k : Nat} (hk : k < 16 * m.length + 12) : ((encS m).getD k 0).toNat = sym (bitsOf m) k := by
  have h1 := sym_le (bitsOf m) k
  have e : (((encS m).getD k 0).toNat : Int) = ((sym (bitsOf m) k : Nat) : Int) := by
    unfold encS
    rw [if_pos hm]
    exact Mk.bytof_getD hk (by omega) (by omega)
  omega
theorem fl_ne {bt : Nat → Nat} {f : Nat → Int} {k : Nat} (h : f k = sft (sym bt k) ∨ f k = - sft (sym bt k)) : (!decide (f k ≥ 0) == ((sym bt k : Int) == 1)) = decide (fl bt f k = 1) := by
  have := sym_le bt k
  unfold fl
  rcases (by omega : sym bt k = 0 ∨ sym bt k = 1) with q | q <;> rw [q] at h ⊢ <;> rcases h with h | h <;> rw [h] <;> decide
end Vt
namespace Vt
open Go Go.Proofs Eng
open Mk (ecR ecR_of)
set_option linter.unusedVariables false
set_option linter.unusedSimpArgs false
set_option maxHeartbeats 8000000
set_option maxRecDepth 100000
def unwR2 := ecR aUnG (fun x => [cwA x.1 x.2.1]) (fun x (y : Nat × Nat × Nat) => x.2.1.toNat ≤ y.2.2 ∧ y.2.2 ≤ 9223372036854775807)
  (fun x y => .tup [.str (x.1.take (x.1.length - 8 * x.2.1.toNat)), .slice 0 y.1 y.2.1 [] 1 0 x.2.1.toNat y.2.2 false, .int .i64 0]) (fun x y => [⟨0, y.1, y.2.1, 1, x.2.1.toNat, fun _ => .int .i64 0, true, false, y.2.2, 3, false, none⟩]) 1
theorem unwR2_ok : EcOk Tryz.prog 60 unwR2 := ecR_of unwG_ok
abbrev aIp : Arg (Nat × Nat × Int) := .ptr 1 (.elt (.int .i64))
abbrev aIp1 : ArgL ((Nat × Nat × Int) × Unit) := .cons aIp .nil
abbrev ChD := ((Nat × Nat × Int) × Unit) × Unit × Unit × ((Nat × Nat × Int) × (Nat × Nat × Int) × Unit) × ((Nat × Nat × Int) × Unit) × Unit
abbrev aCh : Arg ChD :=
  .agg (.cons (.fnc 53 aIp1) (.cons (.fnc 55 .nil) (.cons (.fnc 56 .nil) (.cons (.fnc 57 (.cons aIp aIp1)) (.cons (.fnc 59 aIp1) .nil)))))
abbrev aFm : ArgL (ChD × RowD Int × Unit) := .cons aCh (.cons (.row (.int .i64)) .nil)
/-- The chain is that of the frame's size and the depth. -/
def chOk (c : ChD) (n d : Int) : Prop := c.2.2.2.1.1.2.2 = n ∧ c.2.2.2.1.2.1.2.2 = d ∧ c.2.2.2.2.1.1.2.2 = d
noncomputable def frmG (own : List UInt8) (d : Int) := pcOf aFm (fun x => [chOk x.1 own.length d, few (mOf own d) (x.2.1, ((mOf own d).length : Int), ())]) (fun x => .agg [.str own, .bool false, .int .i64 0, .int .i64 (flN (bitsOf (mOf own d)) x.2.1.f (16 * (mOf own d).length + 12) : Nat)])
noncomputable def EFG1 (own : List UInt8) (d : Int) : Env := ((((((E0.addQ 4 eqBool).addP 58 (decC (mOf own d))).addP 55 Mk.mix).addP 56 encC).addE 60 unwR2).inl 33 Tryz.f33 fun _ _ => [])
theorem EFG1_ok (own : List UInt8) (d : Int) (hm : (mOf own d).length ≤ 1100) : EnvOk Tryz.prog (EFG1 own d) := ((((((E0_ok.addQ (eqBool_ok (by kernel_rfl))).addP (dec_ok (mOf own d) hm)).addP Mk.mix_ok).addP enc_ok).addE unwR2_ok).inl _ Tryz.func33 rfl (by kernel_rfl))
noncomputable def EFG (own : List UInt8) (d : Int) : Env := ((EFG1 own d).inl 57 Tryz.f57 fun _ _ => []).inl 59 Tryz.f59 fun _ _ => []
theorem EFG_ok (own : List UInt8) (d : Int) (hm : (mOf own d).length ≤ 1100) : EnvOk Tryz.prog (EFG own d) := ((EFG1_ok own d hm).inl _ Tryz.func57 rfl (by kernel_rfl)).inl _ Tryz.func59 rfl (by kernel_rfl)
theorem frmG_ok (own : List UInt8) (d : Int) (hd : posB own.length d = true) : PcOk Tryz.prog 41 (frmG own d) := by
  obtain ⟨q1, q2, q3, q4⟩ := posB_iff.1 hd
  have hml := mOf_len hd
  have hm : (mOf own d).length ≤ 1100 := by omega
  refine pcOf_run (fun _ => EFG_ok own d hm) Tryz.func41 rfl (by kernel_rfl) (fun x => ⟨(by show own.length ≤ 9223372036854775807; omega), rfl, trivial, rfl, trivial, rfl, trivial, rfl, trivial⟩)
    (fun x => [.loopD 5 (fun fr H => ⟨5, Nat, [36], fun i => [.int .i64 (i : Nat)], [tgG (slotV fr 10)], fun i => [{ entG H (tgG (slotV fr 10)) with get := fun _ => .agg [.str [], .bool false, .int .i64 0, .int .i64 (flN (bitsOf (mOf own d)) x.2.1.f i : Nat)] }], fun i => i ≤ 16 * (mOf own d).length + 12, fun i => 16 * (mOf own d).length + 12 - i⟩), .draw 7 (.take 0 (.take 1 (.take 2 (.take 3 (.take 4 (.take 5 (.take 6 (.take 7 (.take 8 (.take 9 .fin)))))))))) [],
      .loopD 14 (fun fr H => ⟨14, Nat, [76], fun i => [.int .i64 (i : Nat)], [tgG (slotV fr 10)], fun i => [{ entG H (tgG (slotV fr 10)) with get := fun _ => .agg [.str own, .bool false, .int .i64 0, .int .i64 (flN (bitsOf (mOf own d)) x.2.1.f (16 * (mOf own d).length + 12) : Nat)] }], fun i => i ≤ d.toNat, fun i => d.toNat - i⟩)]) (fun _ => Nat.le_of_ble_eq_true rfl)
    (fun ⟨⟨w, u1, u2, ⟨⟨b2, o2, sz⟩, ⟨b3, o3, dp⟩, u3⟩, ⟨⟨b4, o4, dq⟩, u4⟩, u5⟩, ⟨b, off, n, c, z, f⟩, u6⟩ hp hw => ?_)
  obtain ⟨⟨h1, h2, h3⟩, ⟨p1, p2, p3, p4⟩, _⟩ := hp
  dsimp only at h1 h2 h3 p1 p2 p3 p4
  subst h1 h2 h3 p1
  refine vc_of (q :=
      ∀ (b1 b5:Nat), (b1=b1∧0=0)∧(b2=b2∧o2=o2)∧(b3=b3∧o3=o3)∧∀ (v1:Int), v1=IntKind.i64.wrap ((8:Int)*dq)→∀ (v2:Int), v2=IntKind.i64.wrap ((↑(List.length own):Int)+v1)→∀ (v3:Int), v3=v2→16*List.length (Vt.mOf own dq)+12≤16*List.length (Vt.mOf own dq)+12∧(∀ (k1:Nat), k1 < 16*List.length (Vt.mOf own dq)+12→true=true)∧(b=b∧off=off)∧Vt.few (Vt.mOf own dq) (Eng.RowD.mk b off (16*List.length (Vt.mOf own
      dq)+12) c z f, v3, ())∧∀ (s1:List UInt8), s1=Vt.mOf own dq→∀ (v4:Int), v4=Vt.smF (Vt.bitsOf (Vt.mOf own dq)) f (8*List.length (Vt.mOf own dq)+6)→∀ (v5:Int), v5=0→∀ (s2:List UInt8), s2=s1→∀ (v6:Int), v6=v4→∀ (v7:Int), v7=v5→(b1=b1∧0=0)∧List.length s2≤1100∧∀ (s3:List UInt8), s3=Vt.encS s2→∀ (v8:Int), v8=0→∀ (b6:Nat) (v9:Int), v9=(↑(List.length s3):Int)→(∃ (x1:Nat),
      (0:Int)=(↑x1:Int)∧((b6=b6∧0=0∧false=false∧1≤1∧1≤1∧1≤1)∧([]:List UInt8)=[]∧false=false∧(0:Int)=(0:Int)∧(0:Int)=(↑(Vt.flN (Vt.bitsOf (Vt.mOf own dq)) f x1):Int))∧Nat.le x1 (16*List.length (Vt.mOf own dq)+12))∧∀ (b7:Nat), b7≤16*List.length (Vt.mOf own dq)+12→(decide ((↑b7:Int) < v9)=true→(0:Int)≤(↑b7:Int)∧(↑b7:Int) < (↑(16*List.length (Vt.mOf own dq)+12):Int)∧(b=b∧off=off)∧Int.toNat (↑b7:Int) <
      16*List.length (Vt.mOf own dq)+12∧(0:Int)≤(↑b7:Int)∧(↑b7:Int) < (↑(List.length s3):Int)∧((!decide (f (Int.toNat (↑b7:Int))≥(0:Int))==((↑(UInt8.toNat (List.getD s3 (Int.toNat (↑b7:Int)) 0)):Int)==(1:Int)))=true→(b6=b6∧0=0)∧∀ (v10:Int), v10=IntKind.i64.wrap ((↑(Vt.flN (Vt.bitsOf (Vt.mOf own dq)) f b7):Int)+(1:Int))→(b6=b6∧0=0)∧∀ (v11:Int), v11=IntKind.i64.wrap ((↑b7:Int)+(1:Int))→∃ (x2:Nat),
      v11=(↑x2:Int)∧((b6=b6∧0=0∧false=false∧1≤1∧1≤1∧1≤1)∧([]:List UInt8)=[]∧false=false∧(0:Int)=(0:Int)∧v10=(↑(Vt.flN (Vt.bitsOf (Vt.mOf own dq)) f x2):Int))∧x2≤16*List.length (Vt.mOf own dq)+12∧16*List.length (Vt.mOf own dq)+12 - x2 < 16*List.length (Vt.mOf own dq)+12 - b7)∧((!decide (f (Int.toNat (↑b7:Int))≥(0:Int))==((↑(UInt8.toNat (List.getD s3 (Int.toNat (↑b7:Int)) 0)):Int)==(1:Int)))=false→∀
      (v11:Int), v11=IntKind.i64.wrap ((↑b7:Int)+(1:Int))→∃ (x2:Nat), v11=(↑x2:Int)∧((b6=b6∧0=0∧false=false∧1≤1∧1≤1∧1≤1)∧([]:List UInt8)=[]∧false=false∧(0:Int)=(0:Int)∧(↑(Vt.flN (Vt.bitsOf (Vt.mOf own dq)) f b7):Int)=(↑(Vt.flN (Vt.bitsOf (Vt.mOf own dq)) f x2):Int))∧x2≤16*List.length (Vt.mOf own dq)+12∧16*List.length (Vt.mOf own dq)+12 - x2 < 16*List.length (Vt.mOf own dq)+12 - b7))∧(decide ((↑b7:Int) <
      v9)=false→(b1=b1∧0=0)∧∀ (s4:List UInt8), s4=Mk.mixS s2→∀ (v12:Int), v12=Mk.mixE s2→(b1=b1∧0=0)∧(b4=b4∧o4=o4)∧true=true∧Vt.cwA s4 dq∧∀ (y1:Nat × Nat × Nat), Int.toNat dq≤y1.2.2∧y1.2.2≤9223372036854775807→∀ (s5:List UInt8), s5=List.take (List.length s4 - 8*Int.toNat dq) s4→∀ (v13:Int), v13=0→∀ (s6:List UInt8), s6=s5→∀ (v14:Int), v14=v13→(b6=b6∧0=0)∧(b6=b6∧0=0)∧∀ (v15:Int), v15=(↑(Int.toNat
      dq):Int)→(∃ (x2:Nat), (0:Int)=(↑x2:Int)∧((b6=b6∧0=0∧false=false∧1≤1∧1≤1∧1≤1)∧s6=own∧(v14 != (0:Int))=false∧(0:Int)=(0:Int)∧(↑(Vt.flN (Vt.bitsOf (Vt.mOf own dq)) f b7):Int)=(↑(Vt.flN (Vt.bitsOf (Vt.mOf own dq)) f (16*List.length (Vt.mOf own dq)+12)):Int))∧Nat.le x2 (Int.toNat dq))∧∀ (b8:Nat), b8≤Int.toNat dq→(decide ((↑b8:Int) < v15)=true→(0:Int)≤(↑b8:Int)∧(↑b8:Int) < (↑(Int.toNat
      dq):Int)∧(y1.1=y1.1∧y1.2.1=y1.2.1)∧Int.toNat (↑b8:Int) < Int.toNat dq∧(b6=b6∧0=0)∧∀ (v16:Int), (v16=if (0:Int) > (0:Int) then (0:Int) else (0:Int))→∀ (v17:Int), v17=IntKind.i64.wrap ((0:Int)+v16)→(b6=b6∧0=0)∧∀ (v18:Int), v18=IntKind.i64.wrap ((↑b8:Int)+(1:Int))→∃ (x3:Nat), v18=(↑x3:Int)∧((b6=b6∧0=0∧false=false∧1≤1∧1≤1∧1≤1)∧own=own∧false=false∧v17=0∧(↑(Vt.flN (Vt.bitsOf (Vt.mOf own dq)) f
      (16*List.length (Vt.mOf own dq)+12)):Int)=(↑(Vt.flN (Vt.bitsOf (Vt.mOf own dq)) f (16*List.length (Vt.mOf own dq)+12)):Int))∧x3≤Int.toNat dq∧Int.toNat dq - x3 < Int.toNat dq - b8)∧(decide ((↑b8:Int) < v15)=false→(b6=b6∧0=0)∧(b5=b5∧0=0)∧(b5=b5∧0=0)∧own=own∧false=false∧(0:Int)=(0:Int)∧(↑(Vt.flN (Vt.bitsOf (Vt.mOf own dq)) f (16*List.length (Vt.mOf own dq)+12)):Int)=(↑(Vt.flN (Vt.bitsOf (Vt.mOf own
      dq)) f (16*List.length (Vt.mOf own dq)+12)):Int)))) (by kernel_rfl) ?_
  try simp only [eq_self, true_and, and_true, Nat.le_refl, implies_true, forall_const, Bool.false_eq_true, Bool.true_eq_false, reduceCtorEq, false_imp_iff, true_imp_iff, Int.toNat_zero, Int.toNat_natCast, Nat.zero_lt_one, Int.le_refl, allGet]
  intro v1 e1 v2 e2 v3 e3
  rw [w64_id (by omega) (by omega)] at e1
  rw [e1, w64_id (by omega) (by omega)] at e2
  have hv3 : v3 = ((mOf own dq).length : Nat) := by omega
  refine ⟨⟨rfl, hv3, p3, p4⟩, fun s1 f1 v4 _ v5 e5 s2 f2 v6 _ v7 e7 => ?_⟩
  subst f1
  subst f2
  refine ⟨hm, fun s3 f3 v8 _ v9 e9 => ⟨⟨0, rfl, rfl, Nat.zero_le _⟩, fun i hi => ?_⟩⟩
  have hl3 : s3.length = 16 * (mOf own dq).length + 12 := by rw [f3]; exact encS_len hm
  refine ⟨fun hlt => ?_, fun hge s4 f4 v12 _ => ?_⟩
  · have hlt := of_decide_eq_true hlt
    have hlt2 : i < 16 * (mOf own dq).length + 12 := by omega
    have key : (!decide (f i ≥ 0) == (((s3.getD i 0).toNat : Int) == 1)) = decide (fl (bitsOf (mOf own dq)) f i = 1) := by rw [f3, encS_get hm hlt2]; exact fl_ne (p3 i hlt2)
    have hle := flN_le (bitsOf (mOf own dq)) f i
    refine ⟨by omega, by omega, hlt2, by omega, by omega, fun h v10 e10 v11 e11 => ⟨i + 1, e11.trans (l_succ (by omega)), ?_, by omega, by omega⟩, fun h v11 e11 => ⟨i + 1, e11.trans (l_succ (by omega)), ?_, by omega, by omega⟩⟩
    · have q := of_decide_eq_true (key.symm.trans h)
      rw [e10, w64_id (by omega) (by omega), flN, q]
      omega
    · have q := of_decide_eq_false (key.symm.trans h)
      have : fl (bitsOf (mOf own dq)) f i = 0 := by
        unfold fl at q ⊢
        split at q
        · rename_i h'; rw [if_pos h']
        · exact (q rfl).elim
      rw [flN, this]
      omega
  · have hs4 : s4 = Galois.wrapL own dq := by rw [f4, mOf_mix hd]
    subst hs4
    refine ⟨wrap_cwA hd, fun y1 hy1 s5 f5 v13 e13 s6 f6 v14 e14 v15 e15 => ?_⟩
    rw [wrap_take hd] at f5
    subst f5
    subst f6
    subst e13
    subst e14
    subst e15
    have hge := of_decide_eq_false hge
    obtain rfl : i = 16 * (mOf s6 dq).length + 12 := by omega
    refine ⟨⟨0, rfl, ⟨rfl, by decide, rfl⟩, Nat.zero_le _⟩, fun j hj hlt => ?_⟩
    have hlt := of_decide_eq_true hlt
    exact ⟨by omega, by omega, by omega, fun v16 e16 v17 e17 v18 e18 => ⟨j + 1, e18.trans (l_succ (by omega)), by rw [e17, e16]; decide, by omega, by omega⟩⟩
end Vt
namespace Mk
open Go Go.Proofs Eng
set_option linter.unusedVariables false
set_option linter.unusedSimpArgs false
set_option maxRecDepth 100000
set_option maxHeartbeats 4000000
/-- What of a finder changes. -/
abbrev FY := Int × Bool × OwnD Int × Int × Bool × Int × Int
def FD.upd (d : FD) (y : FY) (gv : Nat × Nat) : FD := FD.mk d.1 d.2.1 d.sb d.so y.1 y.2.1 d.len y.2.2.1 y.2.2.2.1 y.2.2.2.2.1 y.2.2.2.2.2.1 y.2.2.2.2.2.2 gv
/-- A finder whose function is not looked at. -/
abbrev aFinV : Arg (Nat × Nat × ((Nat × Nat × (Int × Bool × Unit)) × Int × OwnD Int × Int × Bool × Int × Int × Value × Unit)) :=
  .optr 108 8 (.agg (.cons (.optr 105 2 (.agg (.cons (.elt (.int .i64)) (.cons (.elt .bool) .nil)))) (.cons (.elt (.int .i64)) (.cons (.orow 3 (.int .i64)) (.cons (.elt (.int .i64)) (.cons (.elt .bool) (.cons (.elt (.int .i64)) (.cons (.elt (.int .i64)) (.cons .any .nil)))))))))
abbrev FV := Nat × Nat × ((Nat × Nat × (Int × Bool × Unit)) × Int × OwnD Int × Int × Bool × Int × Int × Value × Unit)
def FV.fd (d : FV) : FD := (d.1, d.2.1, (d.2.2.1, d.2.2.2.1, d.2.2.2.2.1, d.2.2.2.2.2.1, d.2.2.2.2.2.2.1, d.2.2.2.2.2.2.2.1, d.2.2.2.2.2.2.2.2.1, (0, 0), ()))
def FV.upd (d : FV) (y : FY) (v : Value) : FV := (d.1, d.2.1, ((d.2.2.1.1, d.2.2.1.2.1, (y.1, y.2.1, ())), d.2.2.2.1, y.2.2.1, y.2.2.2.1, y.2.2.2.2.1, y.2.2.2.2.2.1, y.2.2.2.2.2.2, v, ()))
def examG0 := ecU aF (fun x => [x.1.ok, x.1.ms < 3 ∨ x.1.lk = false, 32 ≤ x.1.l.n, wrA x.1.l.f 0 ≤ 2]) (fun _ (_ : Unit) => True) (fun x _ => (x.1.found, ())) (fun _ _ => .bool true)
theorem examG0_ok : EcOk Tryz.prog 68 examG0 := by
  refine ecC_less examine_ok fun x hp => ?_
  obtain ⟨h1, h2, h3, h4, _⟩ := hp
  refine ⟨⟨h1, h2, trivial⟩, fun y hy => ⟨(), trivial, ?_⟩⟩
  obtain ⟨k, hk, hy⟩ := hy
  have h0 : k = 0 := by
    by_cases hl : x.1.lk = true
    · rw [if_pos hl] at hk; exact hk
    · rw [if_neg hl] at hk
      obtain ⟨k1, k2, k3⟩ := hk
      rcases Nat.eq_zero_or_pos k with h | h
      · exact h
      · have := (k1 0 h).2; omega
  subst h0
  have hn : ¬ (x.1.adv 0).l.n < 32 := by show ¬ x.1.l.n - 0 < 32; omega
  rw [if_neg hn] at hy
  have hl : (x.1.adv 0).look = x.1.found := look1 (by show wrA (FD.cut x.1.l 0).f 0 ≤ 2; rw [wrA_cut0]; exact h4)
  rw [hl] at hy
  subst hy
  exact ⟨rfl, rfl⟩
def examG := ecR aF (fun x => [x.1.ok, x.1.ms < 3 ∨ x.1.lk = false, 32 ≤ x.1.l.n, wrA x.1.l.f 0 ≤ 2]) (fun _ (_ : Unit) => True) (fun _ _ => .bool true) (fun x y => Hp.owned (aF.hp 0 (x.1.found, ()))) 0
theorem examG_ok : EcOk Tryz.prog 68 examG := ecR_of examG0_ok
def FD.drop (d : FD) : FD := FD.mk d.1 d.2.1 d.sb d.so d.tk d.lk d.len { d.l with n := 0 } (d.pl + d.l.n) d.op d.wg d.ms d.gv
theorem FD.adv_all (d : FD) : d.adv d.l.n = d.drop := by
  have : FD.cut d.l d.l.n = { d.l with n := 0 } := by
    unfold FD.cut
    simp
  unfold FD.adv FD.drop
  rw [this]
def advZ0 := ecU aAdv (fun x => [x.2.1 = x.1.l.n, x.1.ok]) (fun _ (_ : Unit) => True) (fun x _ => (x.1.drop, x.2.1, ())) (fun _ _ => .tup [])
theorem advZ0_ok : EcOk Tryz.prog 70 advZ0 := by
  refine ecC_less advance_ok fun x hp => ?_
  obtain ⟨d, k, u⟩ := x
  obtain ⟨h1, h2, _⟩ := hp
  dsimp only at h1 h2
  subst h1
  refine ⟨⟨⟨by show (0 : Int) ≤ (d.l.n : Int); omega, Int.le_refl _⟩, h2, trivial⟩, fun y hy => ⟨(), trivial, rfl, ?_⟩⟩
  show Hp.owned (aAdv.hp 0 (d.adv ((d.l.n : Int)).toNat, _, ())) = Hp.owned (aAdv.hp 0 (d.drop, _, ()))
  rw [Int.toNat_natCast, FD.adv_all]
def advZ := ecR aAdv (fun x => [x.2.1 = x.1.l.n, x.1.ok]) (fun _ (_ : Unit) => True) (fun _ _ => .tup []) (fun x y => Hp.owned (aAdv.hp 0 (x.1.drop, x.2.1, ()))) 0
theorem advZ_ok : EcOk Tryz.prog 70 advZ := ecR_of advZ0_ok
def examY : List SV → Hp → Nat → (SV → Hp → Nat → Prop) → Prop := fun args H nx K => match aF.get args H with
  | some (_, x) => match x.1.l.n with
    | 0 => examB args H nx K
    | _ + 1 => examG args H nx K
  | none => False
theorem examY_ok : EcOk Tryz.prog 68 examY := by
  intro args H nx K hc hw
  unfold examY at hc
  split at hc
  · split at hc
    · exact examB_ok args H nx K hc hw
    · exact examG_ok args H nx K hc hw
  · exact hc.elim
def EB1 : Env := (((((EE.addE 70 advZ).addP 65 conC).addE 69 cloneR).addE 68 examY).addP 64 noneC).inl 67 Tryz.f67 fun _ _ => []
theorem EB1_ok : EnvOk Tryz.prog EB1 := (((((EE_ok.addE advZ_ok).addP con_ok).addE cloneR_ok).addE examY_ok).addP none_ok).inl _ Tryz.func67 rfl (by kernel_rfl)
/-- What a frame's values are fed to. -/
def fdPre (d : FD) (r : RowD Int) : Prop := d.ok ∧ d.l.n = 0 ∧ d.op = false ∧ d.ms = 0 ∧ 1 ≤ d.len ∧ d.len ≤ 20000 ∧ (r.n : Int) = d.len + 32 ∧ softB r.f r.n = true ∧ wrA r.f 0 ≤ 2 ∧ d.pl + r.n ≤ 1099511627776
def feedA : List An := [.raw 1, .det 2, .unroll 9 3, .raw 9, .raw 10, .raw 14, .raw 15, .sure 9, .det 0, .draw 11 (.take 0 (.take 1 (.take 2 (.take 3 (.take 4 (.take 5 (.take 6 (.take 7 (.take 8 (.take 9 (.take 10 (.take 11 (.take 12 (.take 13 (.take 14 (.take 15 (.take 16 (.take 17 (.br 18 (.take 19 (.br 20 .fin .stop)) .stop))))))))))))))))))) [1000001], .join ⟨6, Nat, [6], fun y => [.ptr 900001 y 0 [.elt 0 1]], [], fun y => [⟨900001, y, 0, 1, 1, fun _ => nilSlice, true, true, 1, 83, false, none⟩], fun _ => True, fun _ => 0⟩ 100]
end Mk
namespace Vt
open Go Go.Proofs Eng
open Mk (FD FV aFinV FD.ok fdPre EB1 EB1_ok feedA wrA softB)
set_option linter.unusedVariables false
set_option linter.unusedSimpArgs false
set_option maxHeartbeats 8000000
set_option maxRecDepth 100000
abbrev RcD := Nat × Nat × (FV × ChD × Unit)
abbrev aRcv : Arg RcD := .optr 69 6 (.agg (.cons aFinV (.cons aCh .nil)))
abbrev aRcL : ArgL (RcD × Unit) := .cons aRcv .nil
abbrev aRF : ArgL (RcD × RowD Int × Unit) := .cons aRcv (.cons (.row (.int .i64)) .nil)
abbrev RcD.fin (x : RcD) : FV := x.2.2.1
abbrev RcD.ch (x : RcD) : ChD := x.2.2.2.1
def RcD.upd (x : RcD) (y : Mk.FY) (v : Value) : RcD := (x.1, x.2.1, x.fin.upd y v, x.ch, ())
def rcPre (own : List UInt8) (d : Int) (x : RcD) (r : RowD Int) : Prop := chOk x.ch own.length d ∧ fdPre x.fin.fd r ∧ x.fin.fd.len = ((16 * (mOf own d).length + 12 : Nat) : Int) ∧ Near (bitsOf (mOf own d)) (fun k => r.f (32 + k)) (16 * (mOf own d).length + 12) ∧ erN (bitsOf (mOf own d)) (fun k => r.f (32 + k)) (8 * (mOf own d).length + 6) ≤ 4
abbrev RO := Int × OwnD Int × Value × (Nat × Nat × Nat)
def rcPost (y : RO) : Prop := (y.2.1.n = 0 ∧ y.2.1.m ≤ y.2.1.cap ∧ y.2.1.c ≤ y.2.1.cap ∧ (y.2.1.z = true → y.2.1.ez = true)) ∧ 1 ≤ y.2.2.2.2.2
noncomputable def recvC (own : List UInt8) (d : Int) := ecC aRF (fun x => [rcPre own d x.1 x.2.1]) (fun _ (y : RO) => rcPost y) (fun _ y => .tup [.slice aRF.tags y.2.2.2.1 y.2.2.2.2.1 [] 4 0 1 y.2.2.2.2.2 false, .int .i64 0])
  (fun x y => Hp.app (Hp.owned (aRcL.hp 0 (x.1.upd (y.1, true, y.2.1, x.1.fin.fd.pl + x.2.1.n, false, (wrA x.2.1.f 0 : Nat), 0) y.2.2.1, ())))
    [⟨aRF.tags, y.2.2.2.1, y.2.2.2.2.1, 4, 1, fun _ => .agg [.str own, .bool false, .int .i64 0, .int .i64 (flN (bitsOf (mOf own d)) (fun k => x.2.1.f (32 + k)) (16 * (mOf own d).length + 12) : Nat)], true, false, y.2.2.2.2.2, 57, false, none⟩]) 1
noncomputable def ERV (own : List UInt8) (d : Int) : Env := ((EB1.addP 41 (frmG own d)).addQ 36 eqPt).inl 40 Tryz.f40 fun _ _ => feedA
theorem ERV_ok (own : List UInt8) (d : Int) (hd : posB own.length d = true) : EnvOk Tryz.prog (ERV own d) := ((EB1_ok.addP (frmG_ok own d hd)).addQ (eqPt_ok (by kernel_rfl))).inl _ Tryz.func40 rfl (by kernel_rfl)
theorem recv_ok (own : List UInt8) (d : Int) (hd : posB own.length d = true) : EcOk Tryz.prog 18 (recvC own d) := by
  obtain ⟨s1, s2, s3, s4⟩ := posB_iff.1 hd
  have hml := mOf_len hd
  refine ecC_run (fun _ => ERV_ok own d hd) Tryz.func18 rfl (by kernel_rfl) []
    (fun x => .unroll 6 2 :: .draw 8 (.take 0 (.take 1 (.take 2 (.take 3 (.take 4 (.take 5 (.take 6 (.br 7 (.br 8 (.br 9 (.take 10 .fin) .stop) .stop) .stop)))))))) [] :: .raw 0 :: .det 0 :: rds 10) (fun _ => Nat.le_of_ble_eq_true rfl)
    (fun ⟨⟨xb, xo, ⟨fb, fo, ⟨⟨sb, so, ⟨tk, lk, ()⟩⟩, len, ⟨b, off, n, c, z, m, cap, ez, f⟩, pl, op, wg, ms, gv, ()⟩⟩, ⟨w1, u1, u2, ⟨⟨b2, o2, sz⟩, ⟨b3, o3, dp⟩, u3⟩, ⟨⟨b4, o4, dq⟩, u4⟩, u5⟩, ()⟩, ⟨rb, ro, rn, rc, rz, rf⟩, ()⟩ hp hw => ?_)
  obtain ⟨⟨⟨c1, c2, c3⟩, ⟨p1, p2, p3, p4, p5, p6, p7, p8, p9, p10⟩, p11, p12, p13⟩, _⟩ := hp
  dsimp only [RcD.fin, RcD.ch, FV.fd, FD.l, FD.op, FD.ms, FD.len, FD.pl] at c1 c2 c3 p2 p3 p4 p5 p6 p7 p8 p9 p10 p11 p12 p13
  obtain ⟨L, hL⟩ : ∃ L, L = 16 * (mOf own d).length + 12 := ⟨_, rfl⟩
  rw [← hL] at p11
  obtain rfl : rn = L + 32 := by omega
  subst p2 p3 p4 p11 c1
  refine vc_of (q :=
      (xb=xb∧xo=xo)∧(fb=fb∧fo=fo)∧(sb=sb∧so=so)∧L+32≤L+32∧(∀ (k1:Nat), k1 < L+32→true=true)∧(rb=rb∧ro=ro)∧∀ (t1:Bool), t1=!Mk.softB rf (L+32)→(t1=true→∃ (x1:Int × Eng.OwnD Int × Go.Value × Nat × Nat × Nat), (SVeq (SV.slice 999999 0 0 [] 0 0 0 0 true) (SV.slice 9 (x1.2.2.2.1) ((x1.2.2.2.2).1) [] 4 0 1 ((x1.2.2.2.2).2) false)∧(2:Int)=(0:Int))∧((xb=xb∧xo=xo∧false=false∧1≤1∧1≤1∧1≤1)∧(0=0∧fb=fb∧fo=fo)∧SVeq
      (SV.fn (Go.Fn.func (53:Go.FuncId)) [] [SV.ptr 4 w1.1.1 w1.1.2.1 [PS.elt 0 1]]) (SV.fn (Go.Fn.func (53:Go.FuncId)) [] [SV.ptr 4 w1.1.1 w1.1.2.1 [PS.elt 0 1]])∧SVeq (SV.fn (Go.Fn.func (55:Go.FuncId)) [] []) (SV.fn (Go.Fn.func (55:Go.FuncId)) [] [])∧SVeq (SV.fn (Go.Fn.func (56:Go.FuncId)) [] []) (SV.fn (Go.Fn.func (56:Go.FuncId)) [] [])∧SVeq (SV.fn (Go.Fn.func (57:Go.FuncId)) [] [SV.ptr 5 b2 o2
      [PS.elt 0 1], SV.ptr 6 b3 o3 [PS.elt 0 1]]) (SV.fn (Go.Fn.func (57:Go.FuncId)) [] [SV.ptr 5 b2 o2 [PS.elt 0 1], SV.ptr 6 b3 o3 [PS.elt 0 1]])∧SVeq (SV.fn (Go.Fn.func (59:Go.FuncId)) [] [SV.ptr 7 b4 o4 [PS.elt 0 1]]) (SV.fn (Go.Fn.func (59:Go.FuncId)) [] [SV.ptr 7 b4 o4 [PS.elt 0 1]]))∧((fb=fb∧fo=fo∧false=false∧1≤1∧1≤1∧1≤1)∧(0=0∧sb=sb∧so=so)∧(↑L:Int)=(↑L:Int)∧(b=Eng.OwnD.b x1.2.1∧off=Eng.OwnD.off
      x1.2.1∧0=0∧0=Eng.OwnD.n x1.2.1∧c=Eng.OwnD.c x1.2.1∧z=Eng.OwnD.z x1.2.1)∧pl=pl+(↑(L+32):Int)∧false=false∧wg=(↑(Mk.wrA rf 0):Int)∧(0:Int)=(0:Int)∧SVeq (SV.val gv) (SV.val x1.2.2.1))∧((sb=sb∧so=so∧false=false∧1≤1∧1≤1∧1≤1)∧tk=x1.1∧lk=true)∧((b=Eng.OwnD.b x1.2.1∧off=Eng.OwnD.off x1.2.1∧ez=Eng.OwnD.ez x1.2.1∧Eng.OwnD.m x1.2.1≤m∧Eng.OwnD.m x1.2.1≤Eng.OwnD.cap x1.2.1∧Eng.OwnD.cap x1.2.1≤cap)∧∀ (i1:Nat), i1
      < Eng.OwnD.m x1.2.1→f i1=Eng.OwnD.f x1.2.1 i1)∧(false=true∧1=0∧(x1.2.2.2.2).2=0)∧(Eng.OwnD.n x1.2.1=0∧Eng.OwnD.m x1.2.1≤Eng.OwnD.cap x1.2.1∧Eng.OwnD.c x1.2.1≤Eng.OwnD.cap x1.2.1∧(Eng.OwnD.z x1.2.1=true→Eng.OwnD.ez x1.2.1=true))∧1≤(x1.2.2.2.2).2)∧(t1=false→(∀ (b1:Nat), ∃ (x2:Nat), (0=0∧b1=x2∧0=0)∧((b1=x2∧0=0∧false=false∧1≤1∧1≤1∧1≤1)∧0=0∧0=0∧0=0∧0=0∧0=0∧true=true)∧True)∧∀ (b5:Nat),
      True→(fb=fb∧fo=fo)∧(fb=fb∧fo=fo)∧(b=b∧off=off)∧(z=true→ez=true)∧0=0∧0≤m∧c≤cap∧(0+(L+32))*8≤140737488355328∧0+(L+32)≤9223372036854775807∧L+32≤L+32∧(rb=rb∧ro=ro)∧∀ (b6 b7 b8:Nat), 0+(L+32)≤b8→b8≤9223372036854775807→(ez=true→L+32=0→b8=0)→(fb=fb∧fo=fo)∧(fb=fb∧fo=fo)∧(sb=sb∧so=so)∧∀ (v1:Int), v1=(↑(L+32):Int)→∀ (v2:Int), v2=IntKind.i64.wrap
      (tk+v1)→(sb=sb∧so=so)∧(fb=fb∧fo=fo)∧(fb=fb∧fo=fo)∧(sb=sb∧so=so)∧(b6=b6∧b7=b7)∧(0=0∧∀ (k2:Nat), k2 < 0+(L+32)→true=true)∧Mk.FD.ok (fb, fo, (sb, so, v2, lk, ()), (↑L:Int), Eng.OwnD.mk b6 b7 (0+(L+32)) b8 (z&&decide (L+32=0)) (0+(L+32)) b8 (ez&&decide (L+32=0)) fun (k:Nat) ↦ if k < 0 then f k else rf (k - 0), pl, false, wg, (0:Int), (b5, 0), ())∧((0:Int) < (3:Int)∨lk=false)∧32≤0+(L+32)∧Mk.wrA (fun
      (k:Nat) ↦ if k < 0 then f k else rf (k - 0)) 0≤2∧∀ (y1:Unit), True→(fb=fb∧fo=fo)∧(fb=fb∧fo=fo)∧(fb=fb∧fo=fo)∧(decide ((↑(0+(L+32) - 0):Int) < IntKind.i64.wrap ((32:Int)+(↑L:Int)))=true→(b5=b5∧0=0)∧∃ (x2:Int × Eng.OwnD Int × Go.Value × Nat × Nat × Nat), (SVeq (SV.slice 999999 0 0 [] 0 0 0 0 true) (SV.slice 9 (x2.2.2.2.1) ((x2.2.2.2.2).1) [] 4 0 1 ((x2.2.2.2.2).2)
      false)∧(0:Int)=(0:Int))∧((xb=xb∧xo=xo∧false=false∧1≤1∧1≤1∧1≤1)∧(0=0∧fb=fb∧fo=fo)∧SVeq (SV.fn (Go.Fn.func (53:Go.FuncId)) [] [SV.ptr 4 w1.1.1 w1.1.2.1 [PS.elt 0 1]]) (SV.fn (Go.Fn.func (53:Go.FuncId)) [] [SV.ptr 4 w1.1.1 w1.1.2.1 [PS.elt 0 1]])∧SVeq (SV.fn (Go.Fn.func (55:Go.FuncId)) [] []) (SV.fn (Go.Fn.func (55:Go.FuncId)) [] [])∧SVeq (SV.fn (Go.Fn.func (56:Go.FuncId)) [] []) (SV.fn (Go.Fn.func
      (56:Go.FuncId)) [] [])∧SVeq (SV.fn (Go.Fn.func (57:Go.FuncId)) [] [SV.ptr 5 b2 o2 [PS.elt 0 1], SV.ptr 6 b3 o3 [PS.elt 0 1]]) (SV.fn (Go.Fn.func (57:Go.FuncId)) [] [SV.ptr 5 b2 o2 [PS.elt 0 1], SV.ptr 6 b3 o3 [PS.elt 0 1]])∧SVeq (SV.fn (Go.Fn.func (59:Go.FuncId)) [] [SV.ptr 7 b4 o4 [PS.elt 0 1]]) (SV.fn (Go.Fn.func (59:Go.FuncId)) [] [SV.ptr 7 b4 o4 [PS.elt 0
      1]]))∧((fb=fb∧fo=fo∧false=false∧1≤1∧1≤1∧1≤1)∧(0=0∧sb=sb∧so=so)∧(↑L:Int)=(↑L:Int)∧(b6=Eng.OwnD.b x2.2.1∧b7=Eng.OwnD.off x2.2.1∧0=0∧0+(L+32) - 0=Eng.OwnD.n x2.2.1∧b8=Eng.OwnD.c x2.2.1∧(z&&decide (L+32=0))=Eng.OwnD.z x2.2.1)∧pl+(↑(0:Nat):Int)=pl+(↑(L+32):Int)∧true=false∧(↑(Mk.wrA (fun (i:Nat) ↦ if i < 0+(L+32) - 0 then if i < 0 then f i else rf (i - 0) else if i < 0 then f i else rf (i - 0))
      0):Int)=(↑(Mk.wrA rf 0):Int)∧(0:Int)=(0:Int)∧SVeq (SV.fn (Go.Fn.func (67:Go.FuncId)) [] [SV.ptr 900001 b5 0 [PS.elt 0 1]]) (SV.val x2.2.2.1))∧((sb=sb∧so=so∧false=false∧1≤1∧1≤1∧1≤1)∧v2=x2.1∧true=true)∧((b6=Eng.OwnD.b x2.2.1∧b7=Eng.OwnD.off x2.2.1∧(ez&&decide (L+32=0))=Eng.OwnD.ez x2.2.1∧Eng.OwnD.m x2.2.1≤0+(L+32)∧Eng.OwnD.m x2.2.1≤Eng.OwnD.cap x2.2.1∧Eng.OwnD.cap x2.2.1≤b8)∧∀ (i2:Nat), i2 <
      Eng.OwnD.m x2.2.1→(if i2 < 0+(L+32) - 0 then if i2 < 0 then f i2 else rf (i2 - 0) else if i2 < 0 then f i2 else rf (i2 - 0))=Eng.OwnD.f x2.2.1 i2)∧(false=true∧1=0∧(x2.2.2.2.2).2=0)∧(Eng.OwnD.n x2.2.1=0∧Eng.OwnD.m x2.2.1≤Eng.OwnD.cap x2.2.1∧Eng.OwnD.c x2.2.1≤Eng.OwnD.cap x2.2.1∧(Eng.OwnD.z x2.2.1=true→Eng.OwnD.ez x2.2.1=true))∧1≤(x2.2.2.2.2).2)∧(decide ((↑(0+(L+32) - 0):Int) < IntKind.i64.wrap
      ((32:Int)+(↑L:Int)))=false→(fb=fb∧fo=fo)∧(fb=fb∧fo=fo)∧(fb=fb∧fo=fo)∧(fb=fb∧fo=fo)∧(0:Int)≤IntKind.i64.wrap ((32:Int)+(↑L:Int))∧IntKind.i64.wrap ((32:Int)+(↑L:Int))≤(↑b8:Int)∧(0:Int)≤(32:Int)∧(32:Int)≤IntKind.i64.wrap
      ((32:Int)+(↑L:Int))∧((match if b8=Int.toNat (32:Int) then 0 else 32 with | 0 => Int.toNat (IntKind.i64.wrap ((32:Int)+(↑L:Int))) - Int.toNat (32:Int) | Nat.succ i => i+1+(Int.toNat (IntKind.i64.wrap ((32:Int)+(↑L:Int))) - Int.toNat (32:Int)))≤0+(L+32)∧(∀ (k3:Nat), k3 < Int.toNat (IntKind.i64.wrap ((32:Int)+(↑L:Int))) - Int.toNat (32:Int)→true=true)∧(b6=b6∧b7=b7)∧(z&&decide
      (L+32=0))=false∧(Int.toNat (IntKind.i64.wrap ((32:Int)+(↑L:Int))) - Int.toNat (32:Int))*8≤140737488355328∧∀ (y2:Nat × Nat × Nat), Int.toNat (IntKind.i64.wrap ((32:Int)+(↑L:Int))) - Int.toNat (32:Int)≤y2.2.2∧y2.2.2≤9223372036854775807→(∀ (b9:Nat), (b5=b5∧0=0)∧(b9=b9∧0=0)∧∀ (b10:Nat), true=true∧40≤140737488355328∧1≤9223372036854775807∧1≤1∧(b10=b10∧0=0)∧∀ (b11 b12:Nat),
      1≤b12→b12≤9223372036854775807→(1=0→b12=0)→(b5=b5∧0=0)∧(fb=fb∧fo=fo)∧(fb=fb∧fo=fo)∧(sb=sb∧so=so)∧(b6=b6∧b7=b7)∧(0=0∧∀ (k4:Nat), k4 < 0+(L+32)→true=true)∧IntKind.i64.wrap ((32:Int)+(↑L:Int))=(↑(0+(L+32) - 0):Int)∧Mk.FD.ok (fb, fo, (sb, so, v2, true, ()), (↑L:Int), Eng.OwnD.mk b6 b7 (0+(L+32) - 0) b8 (z&&decide (L+32=0)) (0+(L+32)) b8 (ez&&decide (L+32=0)) fun (k:Nat) ↦ if k < 0+(L+32) - 0 then if k <
      0 then f k else rf (k - 0) else if k < 0 then f k else rf (k - 0), pl+(↑(0:Nat):Int), false, (↑(Mk.wrA (fun (i:Nat) ↦ if i < 0+(L+32) - 0 then if i < 0 then f i else rf (i - 0) else if i < 0 then f i else rf (i - 0)) 0):Int), (0:Int), (b5, 0), ())∧∀ (y3:Unit), True→(fb=fb∧fo=fo)∧(fb=fb∧fo=fo)∧(sb=sb∧so=so)∧(b6=b6∧b7=b7)∧(0=0∧∀ (k5:Nat), k5 < 0+(L+32)→true=true)∧Mk.FD.ok (fb, fo, (sb, so, v2, true,
      ()), (↑L:Int), Eng.OwnD.mk b6 b7 0 b8 (z&&decide (L+32=0)) (0+(L+32)) b8 (ez&&decide (L+32=0)) fun (k:Nat) ↦ if k < 0+(L+32) - 0 then if k < 0 then f k else rf (k - 0) else if k < 0 then f k else rf (k - 0), pl+(↑(0:Nat):Int)+(↑(0+(L+32) - 0):Int), false, (↑(Mk.wrA (fun (i:Nat) ↦ if i < 0+(L+32) - 0 then if i < 0 then f i else rf (i - 0) else if i < 0 then f i else rf (i - 0)) 0):Int), (0:Int),
      (b5, 0), ())∧true=true∧(0:Int) < (3:Int)∧0 < 32∧∀ (y4:Unit), True→(b5=b5∧0=0)∧(0:Int)≤(0:Int)∧(0:Int) < (↑(1:Nat):Int)∧(b11=b11∧0=0)∧0 < 1∧∀ (b13:Nat), (b13=b13∧0=0)∧(xb=xb∧xo=xo)∧(b13=b13∧0=0)∧((w1.1.1=w1.1.1∧w1.1.2.1=w1.1.2.1)∧(b2=b2∧o2=o2)∧(b3=b3∧o3=o3)∧(b4=b4∧o4=o4)∧Int.toNat (IntKind.i64.wrap ((32:Int)+(↑L:Int))) - Int.toNat (32:Int)≤Int.toNat (IntKind.i64.wrap ((32:Int)+(↑L:Int))) - Int.toNat
      (32:Int)∧(∀ (k6:Nat), k6 < Int.toNat (IntKind.i64.wrap ((32:Int)+(↑L:Int))) - Int.toNat (32:Int)→true=true)∧(y2.1=y2.1∧y2.2.1=y2.2.1)∧Vt.chOk (w1, (), (), ((b2, o2, (↑(List.length own):Int)), (b3, o3, dp), ()), ((b4, o4, dq), ()), ()) (↑(List.length own):Int) d∧Vt.few (Vt.mOf own d) (Eng.RowD.mk y2.1 y2.2.1 (Int.toNat (IntKind.i64.wrap ((32:Int)+(↑L:Int))) - Int.toNat (32:Int)) y2.2.2 false fun
      (k:Nat) ↦ if (match if b8=Int.toNat (32:Int) then 0 else 32 with | 0 => k | Nat.succ i => i+1+k) < 0+(L+32) - 0 then if (match if b8=Int.toNat (32:Int) then 0 else 32 with | 0 => k | Nat.succ i => i+1+k) < 0 then f (match if b8=Int.toNat (32:Int) then 0 else 32 with | 0 => k | Nat.succ i => i+1+k) else rf ((match if b8=Int.toNat (32:Int) then 0 else 32 with | 0 => k | Nat.succ i => i+1+k) - 0) else
      if (match if b8=Int.toNat (32:Int) then 0 else 32 with | 0 => k | Nat.succ i => i+1+k) < 0 then f (match if b8=Int.toNat (32:Int) then 0 else 32 with | 0 => k | Nat.succ i => i+1+k) else rf ((match if b8=Int.toNat (32:Int) then 0 else 32 with | 0 => k | Nat.succ i => i+1+k) - 0), (↑(List.length (Vt.mOf own d)):Int), ())∧(∀ (b14:Nat),
      (true=true∧40≤140737488355328∧1≤9223372036854775807∧1≤1∧(b14=b14∧0=0)∧∀ (b15 b16:Nat), 1≤b16→b16≤9223372036854775807→(1=0→b16=0)→∃ (x3:Int × Eng.OwnD Int × Go.Value × Nat × Nat × Nat), ((b15=x3.2.2.2.1∧0=(x3.2.2.2.2).1∧0=0∧1=1∧b16=(x3.2.2.2.2).2∧decide (1=0)=false)∧(0:Int)=(0:Int))∧((xb=xb∧xo=xo∧false=false∧1≤1∧1≤1∧1≤1)∧(0=0∧fb=fb∧fo=fo)∧SVeq (SV.fn (Go.Fn.func (53:Go.FuncId)) [] [SV.ptr 4 w1.1.1
      w1.1.2.1 [PS.elt 0 1]]) (SV.fn (Go.Fn.func (53:Go.FuncId)) [] [SV.ptr 4 w1.1.1 w1.1.2.1 [PS.elt 0 1]])∧SVeq (SV.fn (Go.Fn.func (55:Go.FuncId)) [] []) (SV.fn (Go.Fn.func (55:Go.FuncId)) [] [])∧SVeq (SV.fn (Go.Fn.func (56:Go.FuncId)) [] []) (SV.fn (Go.Fn.func (56:Go.FuncId)) [] [])∧SVeq (SV.fn (Go.Fn.func (57:Go.FuncId)) [] [SV.ptr 5 b2 o2 [PS.elt 0 1], SV.ptr 6 b3 o3 [PS.elt 0 1]]) (SV.fn
      (Go.Fn.func (57:Go.FuncId)) [] [SV.ptr 5 b2 o2 [PS.elt 0 1], SV.ptr 6 b3 o3 [PS.elt 0 1]])∧SVeq (SV.fn (Go.Fn.func (59:Go.FuncId)) [] [SV.ptr 7 b4 o4 [PS.elt 0 1]]) (SV.fn (Go.Fn.func (59:Go.FuncId)) [] [SV.ptr 7 b4 o4 [PS.elt 0 1]]))∧((fb=fb∧fo=fo∧false=false∧1≤1∧1≤1∧1≤1)∧(0=0∧sb=sb∧so=so)∧(↑L:Int)=(↑L:Int)∧(b6=Eng.OwnD.b x3.2.1∧b7=Eng.OwnD.off x3.2.1∧0=0∧0=Eng.OwnD.n x3.2.1∧b8=Eng.OwnD.c
      x3.2.1∧(z&&decide (L+32=0))=Eng.OwnD.z x3.2.1)∧pl+(↑(0:Nat):Int)+(↑(0+(L+32) - 0):Int)+(↑(0:Nat):Int)=pl+(↑(L+32):Int)∧false=false∧(↑(Mk.wrA (fun (i:Nat) ↦ if i < 0+(L+32) - 0 then if i < 0 then f i else rf (i - 0) else if i < 0 then f i else rf (i - 0)) 0):Int)=(↑(Mk.wrA rf 0):Int)∧(0:Int)=(0:Int)∧SVeq (SV.fn (Go.Fn.func (67:Go.FuncId)) [] [SV.ptr 900001 b5 0 [PS.elt 0 1]]) (SV.val
      x3.2.2.1))∧((sb=sb∧so=so∧false=false∧1≤1∧1≤1∧1≤1)∧v2=x3.1∧true=true)∧((b6=Eng.OwnD.b x3.2.1∧b7=Eng.OwnD.off x3.2.1∧(ez&&decide (L+32=0))=Eng.OwnD.ez x3.2.1∧Eng.OwnD.m x3.2.1≤0+(L+32)∧Eng.OwnD.m x3.2.1≤Eng.OwnD.cap x3.2.1∧Eng.OwnD.cap x3.2.1≤b8)∧∀ (i3:Nat), i3 < Eng.OwnD.m x3.2.1→(if i3 < 0 then if i3 < 0+(L+32) - 0 then if i3 < 0 then f i3 else rf (i3 - 0) else if i3 < 0 then f i3 else rf (i3 - 0)
      else if i3 < 0+(L+32) - 0 then if i3 < 0 then f i3 else rf (i3 - 0) else if i3 < 0 then f i3 else rf (i3 - 0))=Eng.OwnD.f x3.2.1 i3)∧((b15=x3.2.2.2.1∧0=(x3.2.2.2.2).1∧decide (1=0)=false∧1≤1∧1≤(x3.2.2.2.2).2∧(x3.2.2.2.2).2≤b16)∧∀ (i4:Nat), i4 < 1→own=own∧false=false∧(0:Int)=(0:Int)∧(↑(Vt.flN (Vt.bitsOf (Vt.mOf own d)) (fun (k:Nat) ↦ if
      (match if b8=Int.toNat (32:Int) then 0 else 32 with | 0 => k | Nat.succ i => i+1+k) < 0+(L+32) - 0 then if (match if b8=Int.toNat (32:Int) then 0 else 32 with | 0 => k | Nat.succ i => i+1+k) < 0 then f (match if b8=Int.toNat (32:Int) then 0 else 32 with | 0 => k | Nat.succ i => i+1+k) else rf ((match if b8=Int.toNat (32:Int) then 0 else 32 with | 0 => k | Nat.succ i => i+1+k) - 0) else if
      (match if b8=Int.toNat (32:Int) then 0 else 32 with | 0 => k | Nat.succ i => i+1+k) < 0 then f (match if b8=Int.toNat (32:Int) then 0 else 32 with | 0 => k | Nat.succ i => i+1+k) else rf ((match if b8=Int.toNat (32:Int) then 0 else 32 with | 0 => k | Nat.succ i => i+1+k) - 0)) (16*List.length (Vt.mOf own d)+12)):Int)=(↑(Vt.flN (Vt.bitsOf (Vt.mOf own d)) (fun (k:Nat) ↦ rf (32+k)) (16*List.length
      (Vt.mOf own d)+12)):Int))∧(Eng.OwnD.n x3.2.1=0∧Eng.OwnD.m x3.2.1≤Eng.OwnD.cap x3.2.1∧Eng.OwnD.c x3.2.1≤Eng.OwnD.cap x3.2.1∧(Eng.OwnD.z x3.2.1=true→Eng.OwnD.ez x3.2.1=true))∧1≤(x3.2.2.2.2).2)∧True)∧True)∧True)∧True)∧True))) (by kernel_rfl) ?_
  try simp only [eq_self, true_and, and_true, Nat.le_refl, implies_true, forall_const, Bool.false_eq_true, Bool.true_eq_false, reduceCtorEq, false_imp_iff, true_imp_iff, Int.toNat_zero, Int.toNat_natCast, Nat.zero_lt_one, Int.le_refl, allGet]
  obtain ⟨⟨k1, k2, k3, k4⟩, k5, k6, k7, k8, k9⟩ := p1
  dsimp only [RcD.fin, FV.fd, FD.l, FD.pl, FD.ms] at k1 k2 k3 k4 k5 k6 k7 k8 k9
  have hzf : (z && decide False) = false := Bool.and_false _
  have hf1 : (fun k => if k < 0 then f k else rf (k - 0)) = rf := funext fun k => if_neg (Nat.not_lt_zero _)
  have hf2 : (fun i => if i < 0 + (L + 32) - 0 then if i < 0 then f i else rf (i - 0) else if i < 0 then f i else rf (i - 0)) = rf := funext fun i => by
    rw [if_neg (Nat.not_lt_zero i), ite_self]; rfl
  have w : IntKind.i64.wrap (32 + (L : Int)) = ((L + 32 : Nat) : Int) := by rw [w64_id (by omega) (by omega)]; omega
  intro t1 ht1
  have q1 : t1 = false := by rw [ht1, p8]; rfl
  refine ⟨fun h => (by rw [q1] at h; cases h), fun _ => ⟨fun b1 => ⟨b1, rfl, rfl⟩, fun b5 => ⟨k5, Nat.zero_le _, k4, by omega, by omega, fun b6 b7 b8 h8 h8' v1 hv1 v2 hv2 => ?_⟩⟩⟩
  rw [w, hf1, hf2]
  simp only [Nat.zero_add, Nat.sub_zero, Int.toNat_natCast] at h8 ⊢
  have h32 : (if b8 = Int.toNat 32 then 0 else 32) = 32 := if_neg (by show ¬ b8 = 32; omega)
  have hok : ∀ (pl' : Int) (lk' op' : Bool) (wg' : Int) (n' : Nat), 0 ≤ pl' → pl' + (n' : Int) ≤ 4611686018427387904 → n' ≤ L + 32 → FD.ok (fb, fo, (sb, so, v2, lk', ()), (L : Int), ⟨b6, b7, n', b8, z && decide False, L + 32, b8, ez && decide False, rf⟩, pl', op', wg', 0, (b5, 0), ()) := fun pl' lk' op' wg' n' a1 a2 a3 => by
    refine ⟨⟨a3, h8, Nat.le_trans a3 h8, Nat.le_refl _⟩, fun h => ?_, a1, a2, Int.le_refl _, of_decide_eq_true rfl⟩
    have h : (z && decide False) = true := h
    rw [hzf] at h
    cases h
  rw [h32]
  have hrow : (fun k => if (match 32 with | 0 => k | .succ i => i + 1 + k) < L + 32 then (if (match 32 with | 0 => k | .succ i => i + 1 + k) < 0 then f (match 32 with | 0 => k | .succ i => i + 1 + k) else rf (match 32 with | 0 => k | .succ i => i + 1 + k)) else (if (match 32 with | 0 => k | .succ i => i + 1 + k) < 0 then f (match 32 with | 0 => k | .succ i => i + 1 + k) else rf (match 32 with | 0 => k | .succ i => i + 1 + k))) = fun k => rf (32 + k) := funext fun k => by
    rw [ite_self, if_neg (Nat.not_lt_zero _)]
  refine ⟨hok _ _ _ _ _ k6 (by omega) (Nat.le_refl _), .inl (by decide), by omega, p9, fun h => absurd (of_decide_eq_true h) (by omega), fun _ => ⟨by omega, by omega, by omega, by omega, by show 31 + 1 + (L + 32 - 32) ≤ L + 32; omega, hzf, by show (L + 32 - 32) * 8 ≤ _; omega, fun y2 hy2 => ⟨by omega, by omega, fun b12 h12 h12' => ⟨trivial, hok _ _ _ _ _ (by omega) (by omega) (Nat.le_refl _), hok _ _ _ _ _ (by omega) (by omega) (Nat.zero_le _), by decide, by decide, by decide, ⟨rfl, c2, c3⟩, ?_, by omega, by omega, fun b15 b16 h16 h16' => ?_⟩⟩⟩⟩
  · refine ⟨by show L + 32 - 32 = _; omega, rfl, ?_, ?_⟩
    · exact (congrArg (fun g => Near (bitsOf (mOf own d)) g (16 * (mOf own d).length + 12)) hrow).mpr p12
    · exact (congrArg (fun g => erN (bitsOf (mOf own d)) g (8 * (mOf own d).length + 6) ≤ 4) hrow).mpr p13
  · refine ⟨(v2, ⟨b6, b7, 0, b8, z && decide False, L + 32, b8, ez && decide False, rf⟩, (SV.fn (.func 67) [] [.ptr 900001 b5 0 [.elt 0 1]]).den, (b15, 0, b16)), ⟨rfl, rfl, rfl, by decide⟩, ⟨SVeq.of_eq rfl, SVeq.of_eq rfl, SVeq.of_eq rfl, SVeq.of_eq rfl, SVeq.of_eq rfl⟩, ⟨⟨rfl, rfl, rfl, rfl, rfl⟩, by omega, trivial, ⟨rfl, rfl, rfl, fun _ => trivial⟩⟩, rfl,
      ⟨⟨rfl, rfl, rfl, Nat.le_refl _, h8, Nat.le_refl _⟩, fun i hi => ?_⟩, ⟨⟨rfl, rfl, by decide, h16, Nat.le_refl _⟩, fun _ _ => by rw [hrow]⟩, ⟨rfl, h8, Nat.le_refl _, fun h => ?_⟩, h16⟩
    · rw [if_neg (Nat.not_lt_zero i), ite_self, if_neg (Nat.not_lt_zero i)]
    · have h : (z && decide False) = true := h
      rw [hzf] at h
      cases h
end Vt
