/-
  OWN WORK. Sender: the reference's Get of a unit without gaps (part of XLV, with two names changed).
-/
import Derived.Test.YtfmbmiiioojbeaaGreatLJ
namespace Rc
open Go Go.Proofs Eng
set_option linter.unusedVariables false
set_option linter.unusedSimpArgs false
set_option maxRecDepth 100000
set_option maxHeartbeats 4000000
/-! ### the reference's reader -/
abbrev aRnV : ArgL (List UInt8 × Int × Int × Unit) := .cons (.elt .str) (.cons (.elt (.int .i64)) (.cons (.elt (.int .i64)) .nil))
def numP := pcOf aRnV (fun x => [0 ≤ x.2.1, 0 ≤ x.2.2.1 ∧ x.2.2.1 ≤ 6, x.2.1 + x.2.2.1 ≤ x.1.length ∧ x.1.length ≤ 281474976710656]) (fun x => .int .i64 (numL ((x.1.drop x.2.1.toNat).take x.2.2.1.toNat) : Nat))
theorem numP_ok : PcOk Tryz.prog 38 numP := by
  refine pcOf_run (fun _ => E0_ok) Tryz.func38 rfl (by kernel_rfl) (fun _ => trivial)
    (fun x => [.lp 3 Nat [7, 8] (fun i => [.int .i64 (numL ((x.1.drop x.2.1.toNat).take i) : Nat), .int .i64 (x.2.1 + (i : Nat))]) (fun i => i ≤ x.2.2.1.toNat) (fun i => x.2.2.1.toNat - i)])
    (fun _ => Nat.le_of_ble_eq_true rfl) (fun ⟨l, a, m, ()⟩ hp hw => ?_)
  refine vc_of (q :=
      (∃ (x1:Nat), 0=(↑(numL (List.take x1 (List.drop (Int.toNat a) l))):Int)∧a=a+(↑x1:Int)∧Nat.le x1 (Int.toNat m))∧∀ (b1:Nat), b1≤Int.toNat m→∀ (v1:Int), v1=IntKind.i64.wrap (a+m)→∀ (v2:Int), v2=IntKind.i64.wrap (a+m)→∀ (v3:Int), v3=(↑(List.length l):Int)→∀ (t1:Bool), (t1=if decide (a+(↑b1:Int) < v1)=true then decide (v2≤v3) else false)→(t1=true→∀ (v4:Int), v4=IntKind.i64.wrap ((↑(numL (List.take b1
      (List.drop (Int.toNat a) l))):Int)*(256:Int))→(0:Int)≤a+(↑b1:Int)∧a+(↑b1:Int) < (↑(List.length l):Int)∧∀ (v5:Int), v5=IntKind.i64.wrap (↑(UInt8.toNat (List.getD l (Int.toNat (a+(↑b1:Int))) 0)):Int)→∀ (v6:Int), v6=IntKind.i64.wrap (v4+v5)→∀ (v7:Int), v7=IntKind.i64.wrap (a+(↑b1:Int)+(1:Int))→∃ (x2:Nat), v6=(↑(numL (List.take x2 (List.drop (Int.toNat a) l))):Int)∧v7=a+(↑x2:Int)∧x2≤Int.toNat
      m∧Int.toNat m - x2 < Int.toNat m - b1)∧(t1=false→(↑(numL (List.take b1 (List.drop (Int.toNat a) l))):Int)=(↑(numL (List.take (Int.toNat m) (List.drop (Int.toNat a) l))):Int))) (by kernel_rfl) ?_
  try simp only [eq_self, true_and, and_true, Nat.le_refl, implies_true, forall_const, Bool.false_eq_true, Bool.true_eq_false, reduceCtorEq, false_imp_iff, true_imp_iff, Int.toNat_zero, Int.toNat_natCast, Nat.zero_lt_one, Int.le_refl, allGet]
  obtain ⟨a0, ⟨m0, m6⟩, ⟨hl, hb⟩, _⟩ := hp
  dsimp only at a0 m0 m6 hl hb
  obtain ⟨m, rfl⟩ : ∃ k : Nat, m = k := ⟨m.toNat, by omega⟩
  obtain ⟨a, rfl⟩ : ∃ k : Nat, a = k := ⟨a.toNat, by omega⟩
  have tm : ((m : Nat) : Int).toNat = m := rfl
  have ta : ((a : Nat) : Int).toNat = a := rfl
  rw [tm, ta]
  refine ⟨⟨0, rfl, by omega, Nat.zero_le _⟩, fun i hi v1 e1 v2 e2 v3 e3 t f => ?_⟩
  have e1 : v1 = a + m := e1.trans (w64_id (by omega) (by omega))
  have e2 : v2 = a + m := e2.trans (w64_id (by omega) (by omega))
  have h2 : v2 ≤ v3 := by omega
  refine ⟨fun ht => ?_, fun hf => ?_⟩
  · rw [f] at ht
    have hlt : i < m := by
      split at ht
      · rename_i q; have := of_decide_eq_true q; omega
      · cases ht
    have hi2 : i < (l.drop a).length := by rw [List.length_drop]; omega
    intro v4 e4
    refine ⟨by omega, by omega, fun v5 e5 v6 e6 v7 e7 => ⟨i + 1, ?_, ?_, hlt, by omega⟩⟩
    · have hB := UInt8.toNat_lt (l.getD ((a : Int) + (i : Nat)).toNat 0)
      have hN : numL ((l.drop a).take i) < 256 ^ 6 := by
        refine Nat.lt_of_lt_of_le (numL_lt _) (Nat.pow_le_pow_right (by decide) ?_)
        rw [List.length_take]; omega
      have hN' : numL ((l.drop a).take i) < 281474976710656 := hN
      have e4 := e4.trans (w64_id (by omega) (by omega))
      have e5 := e5.trans (w64_id (by omega) (by omega))
      rw [e6, e4, e5, w64_id (by omega) (by omega)]
      have hix : ((a : Int) + (i : Nat)).toNat = a + i := by omega
      rw [List.take_succ_eq_append_getElem hi2, numL_snoc, hix, List.getD_eq_getElem?_getD, List.getElem?_eq_getElem (by omega), List.getElem_drop]
      show _ = ((numL ((l.drop a).take i) * 256 + (l[a + i]'(by omega)).toNat : Nat) : Int)
      simp
    · rw [e7, w64_id (by omega) (by omega)]; omega
  · have : m ≤ i := by
      rw [f] at hf
      split at hf
      · exact absurd (of_decide_eq_false hf) (by omega)
      · rename_i q; have : ¬ ((a : Int) + (i : Nat) < v1) := fun h => q (decide_eq_true h); omega
    rw [show i = m by omega]
abbrev aRsV : ArgL (List UInt8 × Int × Unit) := .cons (.elt .str) (.cons (.elt (.int .i64)) .nil)
def restP := pcOf aRsV (fun x => [0 ≤ x.2.1, x.1.length ≤ 281474976710656]) (fun x => .str (x.1.drop x.2.1.toNat))
theorem restP_ok : PcOk Tryz.prog 40 restP := by
  refine pcOf_runS (fun _ => E0_ok) Tryz.func40 rfl (by kernel_rfl) (fun x hw => by have hw := hw _ (List.mem_cons_self ..); have hl : x.1.length ≤ 9223372036854775807 := hw; show (x.1.drop _).length ≤ _; rw [List.length_drop]; omega)
    (fun x => [])
    (fun _ => Nat.le_of_ble_eq_true rfl) (fun ⟨l, n, ()⟩ hp hw => ?_)
  refine vc_of (q :=
      ∀ (v1:Int), v1=(↑(List.length l):Int)→∀ (v2:Int), (v2=if v1 < n then v1 else n)→0≤(↑(List.length l):Int)∧(↑(List.length l):Int)≤(↑(List.length l):Int)∧0≤v2∧v2≤(↑(List.length l):Int)∧List.drop (Int.toNat v2) (List.take (Int.toNat (↑(List.length l):Int)) l)=List.drop (Int.toNat n) l) (by kernel_rfl) ?_
  try simp only [eq_self, true_and, and_true, Nat.le_refl, implies_true, forall_const, Bool.false_eq_true, Bool.true_eq_false, reduceCtorEq, false_imp_iff, true_imp_iff, Int.toNat_zero, Int.toNat_natCast, Nat.zero_lt_one, Int.le_refl, allGet]
  obtain ⟨n0, _⟩ := hp
  have n0 : 0 ≤ n := n0
  intro v1 e1 v2 e2
  refine ⟨by omega, by rw [e2]; split <;> omega, by rw [e2]; split <;> omega, ?_⟩
  rw [List.take_of_length_le (Nat.le_refl _), e2]
  split
  · rw [List.drop_eq_nil_of_le (by omega), List.drop_eq_nil_of_le (by omega)]
  · rfl

/-! ### the reference's Get -/
theorem rd_at {pre r : List UInt8} {n : Int} {m k : Nat} (hk : pre.length = k) (h0 : 0 ≤ n) (h1 : n < ((256 ^ m : Nat) : Int)) : ((numL (((pre ++ (byI n m ++ r)).drop k).take m) : Nat) : Int) = n := by
  rw [List.drop_left' hk]
  exact rd_num h0 h1
def uSV0 (u : U) : SV := .agg [.int .i64 u.kind, .int .i64 u.number, .str u.name, .int .i64 u.size, .int .u32 u.sum, .int .i64 u.offset, .str u.data, .int .i64 u.why, .int .i64 u.of, .bool u.me, nilSlice]
noncomputable def getR := ecC aStr (fun x => [goodB x.1, (unB x.1).kind ≤ 3]) (fun x (_ : Unit) => True) (fun x _ => .tup [uSV0 (unB x.1), .int .i64 0]) (fun x _ => []) 0
def ERG : Env := (((E0.addP 38 numP).addP 40 restP).addP 39 sum16).addP 12 putC
theorem ERG_ok : EnvOk Tryz.prog ERG := (((E0_ok.addP numP_ok).addP restP_ok).addP sumR16_ok).addP putR_ok
theorem getR_ok : EcOk Tryz.prog 10 getR := by
  refine ecC_run (fun _ => ERG_ok) Tryz.func10 rfl (by kernel_rfl) [] (fun x => [.draw 7 (.take 0 (.take 1 (.take 2 (.take 3 (.take 4 (.take 5 (.br 6 (.br 7 .fin .stop) .stop))))))) []]) (fun _ => Nat.le_of_ble_eq_true rfl) (fun ⟨b, ()⟩ hp hw => ?_)
  refine vc_of (q :=
      ∀ (b1:Nat) (v1:Int), v1=(↑(List.length b):Int)→∀ (v2:Int), v2=(↑(List.length b):Int)→∀ (t1:Bool), (t1=if decide (v1 < (6:Int))=true then true else decide (v2 > (167:Int)))→(t1=true→(b1=b1∧0=0)∧(b1=b1∧0=0)∧∃ (x1:Unit), (((0:Int)=(unB b).kind∧(0:Int)=(unB b).number∧[]=(unB b).name∧(0:Int)=(unB b).size∧(0:Int)=(unB b).sum∧(0:Int)=(unB b).offset∧[]=(unB b).data∧(0:Int)=(unB b).why∧(0:Int)=(unB
      b).of∧false=(unB b).me∧0=0∧0=0∧0=0∧0=0∧0=0∧true=true)∧(6:Int)=0)∧True)∧(t1=false→∀ (v3:Int), v3=(↑(List.length b):Int)→∀ (v4:Int), v4=IntKind.i64.wrap (v3 - (2:Int))→0≤v4∧((0:Int)≤2∧(2:Int)≤6)∧(v4+2≤(↑(List.length b):Int)∧List.length b≤281474976710656)∧∀ (v5:Int), v5=(↑(numL (List.take (Int.toNat (2:Int)) (List.drop (Int.toNat v4) b))):Int)→0≤v4∧v4≤(↑(List.length b):Int)∧(0:Int)≤0∧0≤v4∧∀ (v6:Int),
      v6=crc16 (List.drop (Int.toNat (0:Int)) (List.take (Int.toNat v4) b))→∀ (v7:Int), v7=IntKind.i64.wrap v6→((v5 != v7)=true→(b1=b1∧0=0)∧(b1=b1∧0=0)∧∃ (x2:Unit), (((0:Int)=(unB b).kind∧(0:Int)=(unB b).number∧[]=(unB b).name∧(0:Int)=(unB b).size∧(0:Int)=(unB b).sum∧(0:Int)=(unB b).offset∧[]=(unB b).data∧(0:Int)=(unB b).why∧(0:Int)=(unB b).of∧false=(unB
      b).me∧0=0∧0=0∧0=0∧0=0∧0=0∧true=true)∧(370:Int)=0)∧True)∧((v5 != v7)=false→0≤v4∧v4≤(↑(List.length b):Int)∧(0:Int)≤0∧0≤v4∧(0:Int)≤0∧0 < (↑(List.length (List.drop (Int.toNat (0:Int)) (List.take (Int.toNat v4) b))):Int)∧∀ (v8:Int), v8=IntKind.i64.wrap (↑(UInt8.toNat (List.getD (List.drop (Int.toNat (0:Int)) (List.take (Int.toNat v4) b)) (Int.toNat (0:Int))
      0)):Int)→(0:Int)≤1∧((0:Int)≤2∧(2:Int)≤6)∧((1:Int)+2≤(↑(List.length (List.drop (Int.toNat (0:Int)) (List.take (Int.toNat v4) b))):Int)∧List.length (List.drop (Int.toNat (0:Int)) (List.take (Int.toNat v4) b))≤281474976710656)∧∀ (v9:Int), v9=(↑(numL (List.take (Int.toNat (2:Int)) (List.drop (Int.toNat (1:Int)) (List.drop (Int.toNat (0:Int)) (List.take (Int.toNat v4) b))))):Int)→(∀ (b2:Nat),
      ((b2=b2∧0=0)∧(b2=b2∧0=0)∧((v8==(1:Int))=true→(0:Int)≤3∧((0:Int)≤2∧(2:Int)≤6)∧((3:Int)+2≤(↑(List.length (List.drop (Int.toNat (0:Int)) (List.take (Int.toNat v4) b))):Int)∧List.length (List.drop (Int.toNat (0:Int)) (List.take (Int.toNat v4) b))≤281474976710656)∧∀ (v10:Int), v10=(↑(numL (List.take (Int.toNat (2:Int)) (List.drop (Int.toNat (3:Int)) (List.drop (Int.toNat (0:Int)) (List.take (Int.toNat
      v4) b))))):Int)→(0:Int)≤5∧List.length (List.drop (Int.toNat (0:Int)) (List.take (Int.toNat v4) b))≤281474976710656∧∀ (s1:List UInt8), s1=List.drop (Int.toNat (5:Int)) (List.drop (Int.toNat (0:Int)) (List.take (Int.toNat v4) b))→(b2=b2∧0=0)∧(b2=b2∧0=0)∧(b2=b2∧0=0)∧true=true∧0≤8796093022208∧((0:Int)≤0∧(0:Int)≤4294967295)∧∀ (s2:List UInt8), s2=putU (uOf (v8, v9, s1, v10, (0:Int), (0:Int), [], (0:Int),
      (0:Int), false, Eng.RowD.mk 0 0 0 0 true fun (x:Nat) ↦ ((0:Int), (0:Int), ()), ()))→∀ (v11:Int), v11=putE (uOf (v8, v9, s1, v10, (0:Int), (0:Int), [], (0:Int), (0:Int), false, Eng.RowD.mk 0 0 0 0 true fun (x:Nat) ↦ ((0:Int), (0:Int), ()), ()))→∀ (t2:Bool), (t2=if (v11 != (0:Int))=true then true else !s2==b)→(t2=true→(b1=b1∧0=0)∧(b1=b1∧0=0)∧∃ (x3:Unit), (((0:Int)=(unB b).kind∧(0:Int)=(unB
      b).number∧[]=(unB b).name∧(0:Int)=(unB b).size∧(0:Int)=(unB b).sum∧(0:Int)=(unB b).offset∧[]=(unB b).data∧(0:Int)=(unB b).why∧(0:Int)=(unB b).of∧false=(unB b).me∧0=0∧0=0∧0=0∧0=0∧0=0∧true=true)∧(6:Int)=0)∧True)∧(t2=false→(b2=b2∧0=0)∧(b1=b1∧0=0)∧(b1=b1∧0=0)∧∃ (x4:Unit), ((v8=(unB b).kind∧v9=(unB b).number∧s1=(unB b).name∧v10=(unB b).size∧(0:Int)=(unB b).sum∧(0:Int)=(unB b).offset∧[]=(unB
      b).data∧(0:Int)=(unB b).why∧(0:Int)=(unB b).of∧false=(unB b).me∧0=0∧0=0∧0=0∧0=0∧0=0∧true=true)∧(0:Int)=0)∧True))∧((v8==(1:Int))=false→((v8==(2:Int))=true→(0:Int)≤3∧((0:Int)≤2∧(2:Int)≤6)∧((3:Int)+2≤(↑(List.length (List.drop (Int.toNat (0:Int)) (List.take (Int.toNat v4) b))):Int)∧List.length (List.drop (Int.toNat (0:Int)) (List.take (Int.toNat v4) b))≤281474976710656)∧∀ (v11:Int), v11=(↑(numL
      (List.take (Int.toNat (2:Int)) (List.drop (Int.toNat (3:Int)) (List.drop (Int.toNat (0:Int)) (List.take (Int.toNat v4) b))))):Int)→(0:Int)≤5∧List.length (List.drop (Int.toNat (0:Int)) (List.take (Int.toNat v4) b))≤281474976710656∧∀ (s1:List UInt8), s1=List.drop (Int.toNat (5:Int)) (List.drop (Int.toNat (0:Int)) (List.take (Int.toNat v4)
      b))→(b2=b2∧0=0)∧(b2=b2∧0=0)∧(b2=b2∧0=0)∧true=true∧0≤8796093022208∧((0:Int)≤0∧(0:Int)≤4294967295)∧∀ (s2:List UInt8), s2=putU (uOf (v8, v9, [], (0:Int), (0:Int), v11, s1, (0:Int), (0:Int), false, Eng.RowD.mk 0 0 0 0 true fun (x:Nat) ↦ ((0:Int), (0:Int), ()), ()))→∀ (v12:Int), v12=putE (uOf (v8, v9, [], (0:Int), (0:Int), v11, s1, (0:Int), (0:Int), false, Eng.RowD.mk 0 0 0 0 true fun (x:Nat) ↦
      ((0:Int), (0:Int), ()), ()))→∀ (t2:Bool), (t2=if (v12 != (0:Int))=true then true else !s2==b)→(t2=true→(b1=b1∧0=0)∧(b1=b1∧0=0)∧∃ (x3:Unit), (((0:Int)=(unB b).kind∧(0:Int)=(unB b).number∧[]=(unB b).name∧(0:Int)=(unB b).size∧(0:Int)=(unB b).sum∧(0:Int)=(unB b).offset∧[]=(unB b).data∧(0:Int)=(unB b).why∧(0:Int)=(unB b).of∧false=(unB
      b).me∧0=0∧0=0∧0=0∧0=0∧0=0∧true=true)∧(6:Int)=0)∧True)∧(t2=false→(b2=b2∧0=0)∧(b1=b1∧0=0)∧(b1=b1∧0=0)∧∃ (x4:Unit), ((v8=(unB b).kind∧v9=(unB b).number∧[]=(unB b).name∧(0:Int)=(unB b).size∧(0:Int)=(unB b).sum∧v11=(unB b).offset∧s1=(unB b).data∧(0:Int)=(unB b).why∧(0:Int)=(unB b).of∧false=(unB
      b).me∧0=0∧0=0∧0=0∧0=0∧0=0∧true=true)∧(0:Int)=0)∧True))∧((v8==(2:Int))=false→((v8==(3:Int))=true→(0:Int)≤3∧((0:Int)≤1∧(1:Int)≤6)∧((3:Int)+1≤(↑(List.length (List.drop (Int.toNat (0:Int)) (List.take (Int.toNat v4) b))):Int)∧List.length (List.drop (Int.toNat (0:Int)) (List.take (Int.toNat v4) b))≤281474976710656)∧∀ (v12:Int), v12=(↑(numL (List.take (Int.toNat (1:Int)) (List.drop (Int.toNat (3:Int))
      (List.drop (Int.toNat (0:Int)) (List.take (Int.toNat v4) b))))):Int)→(0:Int)≤4∧((0:Int)≤2∧(2:Int)≤6)∧((4:Int)+2≤(↑(List.length (List.drop (Int.toNat (0:Int)) (List.take (Int.toNat v4) b))):Int)∧List.length (List.drop (Int.toNat (0:Int)) (List.take (Int.toNat v4) b))≤281474976710656)∧∀ (v13:Int), v13=(↑(numL (List.take (Int.toNat (2:Int)) (List.drop (Int.toNat (4:Int)) (List.drop (Int.toNat (0:Int))
      (List.take (Int.toNat v4) b))))):Int)→(0:Int)≤6∧((0:Int)≤4∧(4:Int)≤6)∧((6:Int)+4≤(↑(List.length (List.drop (Int.toNat (0:Int)) (List.take (Int.toNat v4) b))):Int)∧List.length (List.drop (Int.toNat (0:Int)) (List.take (Int.toNat v4) b))≤281474976710656)∧∀ (v14:Int), v14=(↑(numL (List.take (Int.toNat (4:Int)) (List.drop (Int.toNat (6:Int)) (List.drop (Int.toNat (0:Int)) (List.take (Int.toNat v4)
      b))))):Int)→∀ (v15:Int), v15=IntKind.u32.wrap v14→(b2=b2∧0=0)∧(b2=b2∧0=0)∧(b2=b2∧0=0)∧(b2=b2∧0=0)∧true=true∧0≤8796093022208∧(0≤v15∧v15≤4294967295)∧∀ (s1:List UInt8), s1=putU (uOf (v8, v9, [], v13, v15, (0:Int), [], v12, (0:Int), false, Eng.RowD.mk 0 0 0 0 true fun (x:Nat) ↦ ((0:Int), (0:Int), ()), ()))→∀ (v16:Int), v16=putE (uOf (v8, v9, [], v13, v15, (0:Int), [], v12, (0:Int), false, Eng.RowD.mk 0
      0 0 0 true fun (x:Nat) ↦ ((0:Int), (0:Int), ()), ()))→∀ (t2:Bool), (t2=if (v16 != (0:Int))=true then true else !s1==b)→(t2=true→(b1=b1∧0=0)∧(b1=b1∧0=0)∧∃ (x3:Unit), (((0:Int)=(unB b).kind∧(0:Int)=(unB b).number∧[]=(unB b).name∧(0:Int)=(unB b).size∧(0:Int)=(unB b).sum∧(0:Int)=(unB b).offset∧[]=(unB b).data∧(0:Int)=(unB b).why∧(0:Int)=(unB b).of∧false=(unB
      b).me∧0=0∧0=0∧0=0∧0=0∧0=0∧true=true)∧(6:Int)=0)∧True)∧(t2=false→(b2=b2∧0=0)∧(b1=b1∧0=0)∧(b1=b1∧0=0)∧∃ (x4:Unit), ((v8=(unB b).kind∧v9=(unB b).number∧[]=(unB b).name∧v13=(unB b).size∧v15=(unB b).sum∧(0:Int)=(unB b).offset∧[]=(unB b).data∧v12=(unB b).why∧(0:Int)=(unB b).of∧false=(unB
      b).me∧0=0∧0=0∧0=0∧0=0∧0=0∧true=true)∧(0:Int)=0)∧True))∧((v8==(3:Int))=false→((v8==(4:Int))=true→(0:Int)≤3∧((0:Int)≤1∧(1:Int)≤6)∧((3:Int)+1≤(↑(List.length (List.drop (Int.toNat (0:Int)) (List.take (Int.toNat v4) b))):Int)∧List.length (List.drop (Int.toNat (0:Int)) (List.take (Int.toNat v4) b))≤281474976710656)∧∀ (v13:Int), v13=(↑(numL (List.take (Int.toNat (1:Int)) (List.drop (Int.toNat (3:Int))
      (List.drop (Int.toNat (0:Int)) (List.take (Int.toNat v4) b))))):Int)→(b2=b2∧0=0)∧(b2=b2∧0=0)∧true=true∧0≤8796093022208∧((0:Int)≤0∧(0:Int)≤4294967295)∧∀ (s1:List UInt8), s1=putU (uOf (v8, v9, [], (0:Int), (0:Int), (0:Int), [], v13, (0:Int), false, Eng.RowD.mk 0 0 0 0 true fun (x:Nat) ↦ ((0:Int), (0:Int), ()), ()))→∀ (v14:Int), v14=putE (uOf (v8, v9, [], (0:Int), (0:Int), (0:Int), [], v13, (0:Int),
      false, Eng.RowD.mk 0 0 0 0 true fun (x:Nat) ↦ ((0:Int), (0:Int), ()), ()))→∀ (t2:Bool), (t2=if (v14 != (0:Int))=true then true else !s1==b)→(t2=true→(b1=b1∧0=0)∧(b1=b1∧0=0)∧∃ (x3:Unit), (((0:Int)=(unB b).kind∧(0:Int)=(unB b).number∧[]=(unB b).name∧(0:Int)=(unB b).size∧(0:Int)=(unB b).sum∧(0:Int)=(unB b).offset∧[]=(unB b).data∧(0:Int)=(unB b).why∧(0:Int)=(unB b).of∧false=(unB
      b).me∧0=0∧0=0∧0=0∧0=0∧0=0∧true=true)∧(6:Int)=0)∧True)∧(t2=false→(b2=b2∧0=0)∧(b1=b1∧0=0)∧(b1=b1∧0=0)∧∃ (x4:Unit), ((v8=(unB b).kind∧v9=(unB b).number∧[]=(unB b).name∧(0:Int)=(unB b).size∧(0:Int)=(unB b).sum∧(0:Int)=(unB b).offset∧[]=(unB b).data∧v13=(unB b).why∧(0:Int)=(unB b).of∧false=(unB
      b).me∧0=0∧0=0∧0=0∧0=0∧0=0∧true=true)∧(0:Int)=0)∧True))∧((v8==(4:Int))=false→((v8==(5:Int))=true→(0:Int)≤3∧((0:Int)≤1∧(1:Int)≤6)∧((3:Int)+1≤(↑(List.length (List.drop (Int.toNat (0:Int)) (List.take (Int.toNat v4) b))):Int)∧List.length (List.drop (Int.toNat (0:Int)) (List.take (Int.toNat v4) b))≤281474976710656)∧∀ (v14:Int), v14=(↑(numL (List.take (Int.toNat (1:Int)) (List.drop (Int.toNat (3:Int))
      (List.drop (Int.toNat (0:Int)) (List.take (Int.toNat v4) b))))):Int)→(b2=b2∧0=0)∧False)∧((v8==(5:Int))=false→((v8==(6:Int))=true→(0:Int)≤3∧((0:Int)≤1∧(1:Int)≤6)∧((3:Int)+1≤(↑(List.length (List.drop (Int.toNat (0:Int)) (List.take (Int.toNat v4) b))):Int)∧List.length (List.drop (Int.toNat (0:Int)) (List.take (Int.toNat v4) b))≤281474976710656)∧∀ (v15:Int), v15=(↑(numL (List.take (Int.toNat (1:Int))
      (List.drop (Int.toNat (3:Int)) (List.drop (Int.toNat (0:Int)) (List.take (Int.toNat v4) b))))):Int)→(b2=b2∧0=0)∧(b2=b2∧0=0)∧true=true∧0≤8796093022208∧((0:Int)≤0∧(0:Int)≤4294967295)∧∀ (s1:List UInt8), s1=putU (uOf (v8, v9, [], (0:Int), (0:Int), (0:Int), [], (0:Int), v15, false, Eng.RowD.mk 0 0 0 0 true fun (x:Nat) ↦ ((0:Int), (0:Int), ()), ()))→∀ (v16:Int), v16=putE (uOf (v8, v9, [], (0:Int),
      (0:Int), (0:Int), [], (0:Int), v15, false, Eng.RowD.mk 0 0 0 0 true fun (x:Nat) ↦ ((0:Int), (0:Int), ()), ()))→∀ (t2:Bool), (t2=if (v16 != (0:Int))=true then true else !s1==b)→(t2=true→(b1=b1∧0=0)∧(b1=b1∧0=0)∧∃ (x3:Unit), (((0:Int)=(unB b).kind∧(0:Int)=(unB b).number∧[]=(unB b).name∧(0:Int)=(unB b).size∧(0:Int)=(unB b).sum∧(0:Int)=(unB b).offset∧[]=(unB b).data∧(0:Int)=(unB b).why∧(0:Int)=(unB
      b).of∧false=(unB b).me∧0=0∧0=0∧0=0∧0=0∧0=0∧true=true)∧(6:Int)=0)∧True)∧(t2=false→(b2=b2∧0=0)∧(b1=b1∧0=0)∧(b1=b1∧0=0)∧∃ (x4:Unit), ((v8=(unB b).kind∧v9=(unB b).number∧[]=(unB b).name∧(0:Int)=(unB b).size∧(0:Int)=(unB b).sum∧(0:Int)=(unB b).offset∧[]=(unB b).data∧(0:Int)=(unB b).why∧v15=(unB b).of∧false=(unB
      b).me∧0=0∧0=0∧0=0∧0=0∧0=0∧true=true)∧(0:Int)=0)∧True))∧((v8==(6:Int))=false→(b2=b2∧0=0)∧true=true∧0≤8796093022208∧((0:Int)≤0∧(0:Int)≤4294967295)∧∀ (s1:List UInt8), s1=putU (uOf (v8, v9, [], (0:Int), (0:Int), (0:Int), [], (0:Int), (0:Int), false, Eng.RowD.mk 0 0 0 0 true fun (x:Nat) ↦ ((0:Int), (0:Int), ()), ()))→∀ (v16:Int), v16=putE (uOf (v8, v9, [], (0:Int), (0:Int), (0:Int), [], (0:Int),
      (0:Int), false, Eng.RowD.mk 0 0 0 0 true fun (x:Nat) ↦ ((0:Int), (0:Int), ()), ()))→∀ (t2:Bool), (t2=if (v16 != (0:Int))=true then true else !s1==b)→(t2=true→(b1=b1∧0=0)∧(b1=b1∧0=0)∧∃ (x3:Unit), (((0:Int)=(unB b).kind∧(0:Int)=(unB b).number∧[]=(unB b).name∧(0:Int)=(unB b).size∧(0:Int)=(unB b).sum∧(0:Int)=(unB b).offset∧[]=(unB b).data∧(0:Int)=(unB b).why∧(0:Int)=(unB b).of∧false=(unB
      b).me∧0=0∧0=0∧0=0∧0=0∧0=0∧true=true)∧(6:Int)=0)∧True)∧(t2=false→(b2=b2∧0=0)∧(b1=b1∧0=0)∧(b1=b1∧0=0)∧∃ (x4:Unit), ((v8=(unB b).kind∧v9=(unB b).number∧[]=(unB b).name∧(0:Int)=(unB b).size∧(0:Int)=(unB b).sum∧(0:Int)=(unB b).offset∧[]=(unB b).data∧(0:Int)=(unB b).why∧(0:Int)=(unB b).of∧false=(unB b).me∧0=0∧0=0∧0=0∧0=0∧0=0∧true=true)∧(0:Int)=0)∧True))))))))∧True)∧True))) (by kernel_rfl) ?_
  try simp only [eq_self, true_and, and_true, Nat.le_refl, implies_true, forall_const, Bool.false_eq_true, Bool.true_eq_false, reduceCtorEq, false_imp_iff, true_imp_iff, Int.toNat_zero, Int.toNat_natCast, Nat.zero_lt_one, Int.le_refl, allGet]
  obtain ⟨hg, hk3, _⟩ := hp
  obtain ⟨⟨hu0, q0, q1⟩, hb0⟩ := unB_ok hg
  have hb : b = putU (unB b) := hb0
  have hu : okU (unB b) := hu0
  have sm0 : 0 ≤ (unB b).sum := q0
  have sm1 : (unB b).sum ≤ 4294967295 := q1
  have hk3 : (unB b).kind ≤ 3 := hk3
  clear hu0 q0 q1 hb0
  generalize unB b = u at hu hb sm0 sm1 hk3 ⊢
  have hu' := hu
  have hput : putU u = sealL (headU u) := if_pos hu
  have hbu : b = putU u := hb
  rw [hput] at hb
  have hlen := headU_len hu
  have hbl : b.length = (headU u).length + 2 := by rw [hb, sealL_len]
  obtain ⟨⟨nr0, nr1⟩, hfit, honly⟩ := hu
  have hk : u.kind = 1 ∨ u.kind = 2 ∨ u.kind = 3 := by
    by_cases k1 : u.kind = 1; exact .inl k1
    by_cases k2 : u.kind = 2; exact .inr (.inl k2)
    by_cases k3 : u.kind = 3; exact .inr (.inr k3)
    exact absurd hfit (by
      unfold fitU
      rw [if_neg k1, if_neg k2, if_neg k3]
      split
      · omega
      split
      · omega
      split
      · omega
      · exact id)
  have hh : headU u = byI u.kind 1 ++ (byI u.number 2 ++ bodyU u) := rfl
  have hl1 : (headU u).length = 3 + (bodyU u).length := by rw [hh]; simp only [List.length_append, byI_len]; omega
  have hbody : 1 ≤ (bodyU u).length := bodyU_pos ⟨⟨nr0, nr1⟩, hfit, honly⟩
  have hcrc := crc16_in (headU u)
  intro v1 e1 v2 e2 t1 f1
  have f1 : t1 = false := by
    rw [f1, if_neg (by rw [e1]; simp; omega), e2]
    exact decide_eq_false (by omega)
  subst f1
  refine ⟨fun q => (by cases q), fun _ v3 e3 v4 e4 => ?_⟩
  have e4 : v4 = ((headU u).length : Nat) := by rw [e4, e3, hbl, w64_id (by omega) (by omega)]; omega
  subst e4
  have htk : List.drop 0 (List.take (((headU u).length : Nat) : Int).toNat b) = headU u := by
    show b.take (headU u).length = headU u
    rw [hb, sealL, List.take_left]
  rw [htk]
  refine ⟨by omega, ⟨by decide, by decide⟩, ⟨by omega, by omega⟩, fun v5 e5 => ⟨by omega, by omega, by omega, fun v6 e6 v7 e7 => ?_⟩⟩
  have e5 : v5 = crc16 (headU u) := by
    rw [e5, hb]
    show ((numL (((headU u ++ byI (crc16 (headU u)) 2).drop (headU u).length).take 2) : Nat) : Int) = _
    have := rd_at (pre := headU u) (r := []) (n := crc16 (headU u)) (m := 2) (k := (headU u).length) rfl hcrc.1 hcrc.2
    rwa [List.append_nil] at this
  have e7 : v7 = crc16 (headU u) := by rw [e7, e6]; exact w64_id (by omega) (by omega)
  refine ⟨fun q => ?_, fun _ => ⟨by omega, by omega, by omega, by omega, fun v8 e8 => ?_⟩⟩
  · rw [e5, e7] at q; simp at q
  have e8 : v8 = u.kind := by
    rw [e8, hh, byI, byN]
    show IntKind.i64.wrap ((UInt8.ofNat (u.kind.toNat / 256 ^ 0 % 256)).toNat : Int) = _
    simp
    rw [w64_id (by omega) (by omega)]
    omega
  refine ⟨by decide, ⟨by decide, by decide⟩, ⟨by omega, by omega⟩, fun v9 e9 => ?_⟩
  have e9 : v9 = u.number := by rw [e9, hh]; exact rd_at (m := 2) (k := 1) (byI_len _ _) nr0 (by show u.number < 65536; omega)
  subst e8 e9
  have hp3 : (byI u.kind 1 ++ byI u.number 2).length = 3 := by simp only [List.length_append, byI_len]
  have hh3 : headU u = (byI u.kind 1 ++ byI u.number 2) ++ bodyU u := by rw [hh, List.append_assoc]
  refine ⟨fun h1 => ?_, fun n1 => ⟨fun h2 => ?_, fun n2 => ⟨fun h3 => ?_, fun n3 => ?_⟩⟩⟩
  · have hk : u.kind = 1 := by simpa using h1
    have hby : bodyU u = byI u.size 2 ++ u.name := by simp [bodyU, hk]
    have k_sum : 0 = u.sum := by rw [← honly]; simp [only, hk]
    have k_offset : 0 = u.offset := by rw [← honly]; simp [only, hk]
    have k_data : [] = u.data := by rw [← honly]; simp [only, hk]
    have k_why : 0 = u.why := by rw [← honly]; simp [only, hk]
    have k_of : 0 = u.of := by rw [← honly]; simp [only, hk]
    have k_me : false = u.me := by rw [← honly]; simp [only, hk]
    obtain ⟨z0, z2, z3⟩ := (by simpa [fitU, hk] using hfit : inR u.name.length 1 32 ∧ inR u.size 0 65535)
    refine ⟨by decide, ⟨by decide, by decide⟩, ⟨by rw [hl1, hby, List.length_append, byI_len]; omega, by omega⟩, fun v10 e10 => ⟨by decide, by omega, fun s1 g1 => ?_⟩⟩
    have e10 : v10 = u.size := by rw [e10, hh3, hby]; exact rd_at (m := 2) (k := 3) hp3 z2 (by show u.size < 65536; omega)
    have g1 : s1 = u.name := by rw [g1, hh3, hby, ← List.append_assoc]; exact List.drop_left' (by rw [List.length_append, hp3, byI_len]; rfl)
    subst e10 g1
    have hue : uOf (u.kind, u.number, u.name, u.size, 0, 0, [], 0, 0, false, ⟨0, 0, 0, 0, true, fun x => (0, 0, ())⟩, ()) = u := by
      rw [← honly]; simp [only, hk, uOf, gapsOf]
    rw [hue]
    refine ⟨by decide, by decide, fun s2 g2 v11 g3 t2 f2 => ?_⟩
    have f2 : t2 = false := by rw [f2, g3, putE, if_pos hu', g2, ← hbu]; simp
    subst f2
    refine ⟨fun q => (by cases q), fun _ => ?_⟩
    exact ⟨(), rfl, rfl, rfl, rfl, k_sum, k_offset, k_data, k_why, k_of, k_me⟩
  · have hk : u.kind = 2 := by simpa using h2
    have hby : bodyU u = byI u.offset 2 ++ u.data := by simp [bodyU, hk]
    have k_name : [] = u.name := by rw [← honly]; simp [only, hk]
    have k_size : 0 = u.size := by rw [← honly]; simp [only, hk]
    have k_sum : 0 = u.sum := by rw [← honly]; simp [only, hk]
    have k_why : 0 = u.why := by rw [← honly]; simp [only, hk]
    have k_of : 0 = u.of := by rw [← honly]; simp [only, hk]
    have k_me : false = u.me := by rw [← honly]; simp [only, hk]
    obtain ⟨z0, z2, z3⟩ := (by simpa [fitU, hk] using hfit : inR u.data.length 1 160 ∧ inR u.offset 0 (65535 - u.data.length))
    obtain ⟨n0, n1⟩ := z0
    refine ⟨by decide, ⟨by decide, by decide⟩, ⟨by rw [hl1, hby, List.length_append, byI_len]; omega, by omega⟩, fun v10 e10 => ⟨by decide, by omega, fun s1 g1 => ?_⟩⟩
    have e10 : v10 = u.offset := by rw [e10, hh3, hby]; exact rd_at (m := 2) (k := 3) hp3 z2 (by show u.offset < 65536; omega)
    have g1 : s1 = u.data := by rw [g1, hh3, hby, ← List.append_assoc]; exact List.drop_left' (by rw [List.length_append, hp3, byI_len]; rfl)
    subst e10 g1
    have hue : uOf (u.kind, u.number, [], 0, 0, u.offset, u.data, 0, 0, false, ⟨0, 0, 0, 0, true, fun x => (0, 0, ())⟩, ()) = u := by
      rw [← honly]; simp [only, hk, uOf, gapsOf]
    rw [hue]
    refine ⟨by decide, by decide, fun s2 g2 v11 g3 t2 f2 => ?_⟩
    have f2 : t2 = false := by rw [f2, g3, putE, if_pos hu', g2, ← hbu]; simp
    subst f2
    refine ⟨fun q => (by cases q), fun _ => ?_⟩
    exact ⟨(), rfl, rfl, k_name, k_size, k_sum, rfl, rfl, k_why, k_of, k_me⟩
  · have hk : u.kind = 3 := by simpa using h3
    have hby : bodyU u = byI u.why 1 ++ (byI u.size 2 ++ (byI u.sum 4 ++ [])) := by simp [bodyU, hk]
    have k_name : [] = u.name := by rw [← honly]; simp [only, hk]
    have k_offset : 0 = u.offset := by rw [← honly]; simp [only, hk]
    have k_data : [] = u.data := by rw [← honly]; simp [only, hk]
    have k_of : 0 = u.of := by rw [← honly]; simp [only, hk]
    have k_me : false = u.me := by rw [← honly]; simp [only, hk]
    obtain ⟨⟨w0, w1⟩, z2, z3⟩ := (by simpa [fitU, hk] using hfit : inR u.why 0 1 ∧ inR u.size 0 65535)
    have hlb : (headU u).length = 10 := by rw [hl1, hby]; simp only [List.length_append, byI_len, List.length_nil]
    have hh4 : headU u = ((byI u.kind 1 ++ byI u.number 2) ++ byI u.why 1) ++ (byI u.size 2 ++ (byI u.sum 4 ++ [])) := by rw [hh3, hby, ← List.append_assoc]
    have hh6 : headU u = (((byI u.kind 1 ++ byI u.number 2) ++ byI u.why 1) ++ byI u.size 2) ++ (byI u.sum 4 ++ []) := by rw [hh4, ← List.append_assoc]
    refine ⟨by decide, ⟨by decide, by decide⟩, ⟨by omega, by omega⟩, fun v10 e10 => ⟨by decide, ⟨by decide, by decide⟩, ⟨by omega, by omega⟩, fun v11 e11 => ⟨by decide, ⟨by decide, by decide⟩, ⟨by omega, by omega⟩, fun v12 e12 v13 e13 => ?_⟩⟩⟩
    have e10 : v10 = u.why := by rw [e10, hh3, hby]; exact rd_at (m := 1) (k := 3) hp3 w0 (by show u.why < 256; omega)
    have e11 : v11 = u.size := by rw [e11, hh4]; exact rd_at (m := 2) (k := 4) (by rw [List.length_append, hp3, byI_len]) z2 (by show u.size < 65536; omega)
    have e12 : v12 = u.sum := by rw [e12, hh6]; exact rd_at (m := 4) (k := 6) (by rw [List.length_append, List.length_append, hp3, byI_len, byI_len]) sm0 (by show u.sum < 4294967296; omega)
    have e13 : v13 = u.sum := by rw [e13, e12]; exact u32_id sm0 (by omega)
    subst e10 e11 e13
    have hue : uOf (u.kind, u.number, [], u.size, u.sum, 0, [], u.why, 0, false, ⟨0, 0, 0, 0, true, fun x => (0, 0, ())⟩, ()) = u := by
      rw [← honly]; simp [only, hk, uOf, gapsOf]
    rw [hue]
    refine ⟨by decide, ⟨sm0, sm1⟩, fun s2 g2 v11 g3 t2 f2 => ?_⟩
    have f2 : t2 = false := by rw [f2, g3, putE, if_pos hu', g2, ← hbu]; simp
    subst f2
    refine ⟨fun q => (by cases q), fun _ => ?_⟩
    exact ⟨(), rfl, rfl, k_name, rfl, rfl, k_offset, k_data, rfl, k_of, k_me⟩
  · exfalso
    rcases hk with q | q | q
    · rw [q] at n1; simp at n1
    · rw [q] at n2; simp at n2
    · rw [q] at n3; simp at n3

end Rc
