/-
  OWN WORK. Marker: Attach; soft values of symbols.
-/
import Derived.Test.YtnibcchhhebfaaaGreatDoorK2
namespace Mk
open Go Go.Proofs Eng
set_option linter.unusedVariables false
set_option linter.unusedSimpArgs false
set_option maxRecDepth 100000
set_option maxHeartbeats 4000000

/-! ### strings.Trim at the bytes 0 and 1 -/
def set01 := pcOf aStr (fun x => [x.1 = [0, 1]]) (fun _ => .tup [.arr 256 1 fun k => .bool (Nat.ble k 1), .bool true])
theorem set01_ok : PcOk Tryz.prog 94 set01 := by
  refine pcOf_run (fun _ => E0_ok) Tryz.func94 rfl (by kernel_rfl) (fun x => ⟨fun i hi => ⟨trivial, rfl, rfl⟩, trivial, trivial⟩)
    (fun x => [.loop ⟨2, Nat × Nat, [2, 4], fun y => [.ptr 0 y.2 0 [.elt 0 256], .int .i64 (y.1 : Nat)], [0], fun y => [⟨0, y.2, 0, 256, 1, fun _ => .arr 256 1 fun k => .bool (Nat.blt k y.1), true, true, 1, 149, false, none⟩], fun y => y.1 ≤ 2, fun y => 2 - y.1⟩]) (fun _ => Nat.le_of_ble_eq_true rfl) (fun ⟨b, ()⟩ hp _ => ?_)
  obtain ⟨hb, _⟩ := hp
  obtain rfl : b = [0, 1] := hb
  refine vc_of (q :=
      ∀ (b1:Nat), (∃ (x1:Nat × Nat), (0=0∧b1=x1.2∧0=0)∧(0:Int)=(↑x1.1:Int)∧((b1=x1.2∧0=0∧false=false∧1≤1∧1≤1∧1≤1)∧SVeq (SV.arr 256 1 fun (x:Nat) ↦ SV.bool false) (SV.arr 256 1 fun (k:Nat) ↦ SV.bool (Nat.blt k x1.1)))∧Nat.le x1.1 2)∧∀ (x2:Nat × Nat), x2.1≤2→∀ (v1:Int), v1=(↑(List.length [0, (1:UInt8)]):Int)→(decide ((↑x2.1:Int) < v1)=true→(0:Int)≤(↑x2.1:Int)∧(↑x2.1:Int) < (↑(List.length [0,
      (1:UInt8)]):Int)∧(decide ((↑(UInt8.toNat (List.getD [0, (1:UInt8)] (Int.toNat (↑x2.1:Int)) 0)):Int)≥(128:Int))=true→(x2.2=x2.2∧0=0)∧(x2.2=x2.2∧0=0)∧(x2.2=x2.2∧0=0)∧SVeq (SV.arr 256 1 fun (k:Nat) ↦ SV.bool (Nat.blt k x2.1)) (SV.arr 256 1 fun (k:Nat) ↦ SV.bool (Nat.ble k 1))∧false=true)∧(decide ((↑(UInt8.toNat (List.getD [0, (1:UInt8)] (Int.toNat (↑x2.1:Int))
      0)):Int)≥(128:Int))=false→(0:Int)≤(↑(UInt8.toNat (List.getD [0, (1:UInt8)] (Int.toNat (↑x2.1:Int)) 0)):Int)∧(↑(UInt8.toNat (List.getD [0, (1:UInt8)] (Int.toNat (↑x2.1:Int)) 0)):Int) < (↑(256:Nat):Int)∧(x2.2=x2.2∧0=0)∧Int.toNat (↑(UInt8.toNat (List.getD [0, (1:UInt8)] (Int.toNat (↑x2.1:Int)) 0)):Int) < 256∧∀ (v2:Int), v2=IntKind.i64.wrap ((↑x2.1:Int)+(1:Int))→∃ (x3:Nat × Nat),
      (0=0∧x2.2=x3.2∧0=0)∧v2=(↑x3.1:Int)∧((x2.2=x3.2∧0=0∧false=false∧1≤1∧1≤1∧1≤1)∧SVeq (SV.arr 256 1 fun (k:Nat) ↦ SV.bool (if k=Int.toNat (↑(UInt8.toNat (List.getD [0, (1:UInt8)] (Int.toNat (↑x2.1:Int)) 0)):Int) then true else Nat.blt k x2.1)) (SV.arr 256 1 fun (k:Nat) ↦ SV.bool (Nat.blt k x3.1)))∧x3.1≤2∧2 - x3.1 < 2 - x2.1))∧(decide ((↑x2.1:Int) <
      v1)=false→(x2.2=x2.2∧0=0)∧(x2.2=x2.2∧0=0)∧(x2.2=x2.2∧0=0)∧SVeq (SV.arr 256 1 fun (k:Nat) ↦ SV.bool (Nat.blt k x2.1)) (SV.arr 256 1 fun (k:Nat) ↦ SV.bool (Nat.ble k 1))∧true=true)) (by kernel_rfl) ?_
  try simp only [eq_self, true_and, and_true, Nat.le_refl, implies_true, forall_const, Bool.false_eq_true, Bool.true_eq_false, reduceCtorEq, false_imp_iff, true_imp_iff, Int.toNat_zero, Int.toNat_natCast, Nat.zero_lt_one, Int.le_refl, allGet]
  refine fun b1 => ⟨⟨(0, b1), rfl, rfl, ⟨rfl, arr_sveq0 fun k hk => rfl⟩, Nat.zero_le _⟩, ?_⟩
  rintro ⟨i, b⟩ hi v1 h1
  dsimp only at hi ⊢
  have e1 : v1 = 2 := h1
  subst e1
  have hg : ∀ i, i < 2 → (([0, 1] : List UInt8).getD i 0).toNat = i := by decide
  refine ⟨fun hlt => ?_, fun hge => ?_⟩
  · have hlt := of_decide_eq_true hlt
    have hg := hg i (by omega)
    refine ⟨by omega, by show (i : Int) < 2; omega, fun h => ?_, fun h => ⟨by omega, by omega, by omega, fun v2 h2 => ?_⟩⟩
    · have h := of_decide_eq_true h
      omega
    · refine ⟨(i + 1, b), rfl, h2.trans (l_succ (by omega)), ⟨rfl, arr_sveq0 fun k hk => ?_⟩, by show i + 1 ≤ 2; omega, by show 2 - (i + 1) < 2 - i; omega⟩
      refine congrArg SV.bool ?_
      show _ = Nat.blt k (i + 1)
      split
      · rename_i e
        rw [Bool.eq_iff_iff, Nat.blt_eq]
        exact ⟨fun _ => by omega, fun _ => rfl⟩
      · rename_i e
        rw [Bool.eq_iff_iff, Nat.blt_eq, Nat.blt_eq]; omega
  · have hge := of_decide_eq_false hge
    obtain rfl : i = 2 := by omega
    exact arr_sveq0 fun k hk => congrArg SV.bool (by rw [Bool.eq_iff_iff, Nat.blt_eq, Nat.ble_eq]; omega)
def anL (l : List UInt8) : List An := [.lp 1 Nat [0] (fun k => [.str (l.drop k)]) (fun k => k ≤ l.length ∧ ∀ i, i < k → isSym (l.getD i 0) = true) fun k => l.length - k]
def anR (l : List UInt8) : List An := [.lp 1 Nat [0] (fun k => [.str (l.take k)]) (fun k => k ≤ l.length ∧ ∀ i, k ≤ i → i < l.length → isSym (l.getD i 0) = true) fun k => k]
def ET1 : Env := (E0.addP 62 syms).addP 94 set01
theorem ET1_ok : EnvOk Tryz.prog ET1 := (E0_ok.addP syms_ok).addP set01_ok
def ET2 : Env := ET1.inl 128 Tryz.f128 fun _ _ => []
theorem ET2_ok : EnvOk Tryz.prog ET2 := ET1_ok.inl _ Tryz.func128 rfl (by kernel_rfl)
def ET3 : Env := (ET2.inl 95 Tryz.f95 fun a _ => match a with | .str l :: _ => anL l | _ => []).inl 96 Tryz.f96 fun a _ => match a with | .str l :: _ => anR l | _ => []
theorem ET3_ok : EnvOk Tryz.prog ET3 := (ET2_ok.inl _ Tryz.func95 rfl (by kernel_rfl)).inl _ Tryz.func96 rfl (by kernel_rfl)
def ET : Env := ET3.inl 61 Tryz.f61 fun _ _ => [.raw 3, .raw 5, .det 4, .det 7]
theorem ET_ok : EnvOk Tryz.prog ET := ET3_ok.inl _ Tryz.func61 rfl (by kernel_rfl)
/-! ### Attach -/
def attL (l : List UInt8) : List UInt8 := if listB l = true ∧ l.length ≤ 20000 then symL ++ l else []
def attE (l : List UInt8) : Int := if listB l = true then (if l.length ≤ 20000 then 0 else 3) else 6
def attach := pcOf aStr (fun x => []) (fun x => .tup [.str (attL x.1), .int .i64 (attE x.1)])
theorem symL_len : symL.length = 32 := bytof_len _ _
theorem attL_len (l : List UInt8) : (attL l).length ≤ 20032 := by
  unfold attL
  split
  · rw [List.length_append, symL_len]; omega
  · exact Nat.zero_le _
theorem att_end {b s4 : List UInt8} (hlen : b.length ≤ 9223372036854775807) (h : s4 = [] ↔ listB b = true) :
    ((!s4 == []) = true → [] = attL b ∧ 6 = attE b) ∧ ((!s4 == []) = false → ∀ v1 : Int, v1 = (b.length : Int) → (decide (v1 > 20000) = true → [] = attL b ∧ 3 = attE b) ∧ (decide (v1 > 20000) = false → ∀ s2 : List UInt8, s2 = symL → s2.length + b.length ≤ 9223372036854775807 ∧ ∀ s3 : List UInt8, s3 = s2 ++ b → s3 = attL b ∧ 0 = attE b)) := by
  refine ⟨fun q => ?_, fun q v1 h1 => ?_⟩
  · have hb : ¬ listB b = true := by rw [← h]; simpa using q
    exact ⟨by rw [attL, if_neg (fun q => hb q.1)], by rw [attE, if_neg hb]⟩
  · have hb : listB b = true := by rw [← h]; simpa using q
    subst h1
    refine ⟨fun q => ?_, fun q s2 h2 => ?_⟩
    · have q := of_decide_eq_true q
      exact ⟨by rw [attL, if_neg (by omega)], by rw [attE, if_pos hb, if_neg (by omega)]⟩
    · have q := of_decide_eq_false q
      have hl := symL_len
      subst h2
      exact ⟨by omega, fun s3 h3 => ⟨by rw [h3, attL, if_pos ⟨hb, by omega⟩], by rw [attE, if_pos hb, if_pos (by omega)]⟩⟩
theorem isSym_ble (x : UInt8) : Nat.ble x.toNat 1 = isSym x := rfl
theorem take_getD {b : List UInt8} {n i : Nat} (h : i < n) : (List.take n b).getD i 0 = b.getD i 0 := by
  rw [List.getD_eq_getElem?_getD, List.getD_eq_getElem?_getD, List.getElem?_take_of_lt h]
theorem drop_getD (b : List UInt8) (n i : Nat) : (List.drop n b).getD i 0 = b.getD (n + i) 0 := by
  rw [List.getD_eq_getElem?_getD, List.getD_eq_getElem?_getD, List.getElem?_drop]
theorem att_left {b s2 : List UInt8} {b2 : Nat} (hlen : b.length ≤ 9223372036854775807) (h : b2 ≤ b.length ∧ ∀ i, b2 ≤ i → i < b.length → isSym (b.getD i 0) = true) (hs : s2 = List.take b2 b) :
    (∃ x2, s2 = List.drop x2 s2 ∧ x2 ≤ s2.length ∧ ∀ i2 : Nat, i2 < x2 → isSym (s2.getD i2 0) = true) ∧
    ∀ b3 : Nat, (b3 ≤ s2.length ∧ ∀ i : Nat, i < b3 → isSym (s2.getD i 0) = true) → ∀ v4 : Int, v4 = ((List.drop b3 s2).length : Int) →
      (decide (v4 > 0) = true → 0 < ((List.drop b3 s2).length : Int) ∧ 0 ≤ (((List.drop b3 s2).getD 0 0).toNat : Int) ∧ (((List.drop b3 s2).getD 0 0).toNat : Int) < ((256 : Nat) : Int) ∧ ((List.drop b3 s2).getD 0 0).toNat < 256 ∧
        ∀ t3 : Bool, t3 = Nat.ble ((List.drop b3 s2).getD 0 0).toNat 1 →
          ((!t3) = true → ∀ s3 : List UInt8, s3 = List.drop b3 s2 → ∀ s4 : List UInt8, s4 = s3 →
            ((!s4 == []) = true → [] = attL b ∧ 6 = attE b) ∧ ((!s4 == []) = false → ∀ v1 : Int, v1 = (b.length : Int) → (decide (v1 > 20000) = true → [] = attL b ∧ 3 = attE b) ∧ (decide (v1 > 20000) = false → ∀ s2 : List UInt8, s2 = symL → s2.length + b.length ≤ 9223372036854775807 ∧ ∀ s3 : List UInt8, s3 = s2 ++ b → s3 = attL b ∧ 0 = attE b))) ∧
          ((!t3) = false → 0 ≤ ((List.drop b3 s2).length : Int) ∧ (0 : Int) ≤ 1 ∧ 1 ≤ ((List.drop b3 s2).length : Int) ∧
            ∃ x3, List.drop (Int.toNat 1) (List.take (List.drop b3 s2).length (List.drop b3 s2)) = List.drop x3 s2 ∧ (x3 ≤ s2.length ∧ ∀ i3 : Nat, i3 < x3 → isSym (s2.getD i3 0) = true) ∧ s2.length - x3 < s2.length - b3)) ∧
      (decide (v4 > 0) = false → ∀ s3 : List UInt8, s3 = List.drop b3 s2 → ∀ s4 : List UInt8, s4 = s3 →
        ((!s4 == []) = true → [] = attL b ∧ 6 = attE b) ∧ ((!s4 == []) = false → ∀ v1 : Int, v1 = (b.length : Int) → (decide (v1 > 20000) = true → [] = attL b ∧ 3 = attE b) ∧ (decide (v1 > 20000) = false → ∀ s2 : List UInt8, s2 = symL → s2.length + b.length ≤ 9223372036854775807 ∧ ∀ s3 : List UInt8, s3 = s2 ++ b → s3 = attL b ∧ 0 = attE b))) := by
  have hl2 : s2.length = b2 := by rw [hs, List.length_take]; omega
  have hg : ∀ i, i < b2 → s2.getD i 0 = b.getD i 0 := fun i hi => by rw [hs, take_getD hi]
  refine ⟨⟨0, rfl, Nat.zero_le _, fun _ hi => by omega⟩, fun b3 ⟨h3, hsy⟩ v4 h4 => ?_⟩
  rw [List.length_drop] at h4 ⊢
  subst h4
  refine ⟨fun q => ?_, fun q s3 e3 s4 e4 => ?_⟩
  · have q := of_decide_eq_true q
    rw [drop_getD, Nat.add_zero]
    have hu := u8_lt (s2.getD b3 0)
    refine ⟨by omega, by omega, by omega, hu, fun t3 h3' => ⟨fun ht s3 e3 s4 e4 => ?_, fun ht => ⟨by omega, by omega, by omega, b3 + 1, ?_, ⟨by omega, fun i hi => ?_⟩, by omega⟩⟩⟩
    · rw [e4, e3]
      refine att_end hlen ⟨fun e => ?_, fun hb => ?_⟩
      · have := congrArg List.length e
        rw [List.length_drop, List.length_nil] at this
        omega
      · have := listB_get hb b3 (by omega)
        rw [← hg b3 (by omega), ← isSym_ble, ← h3'] at this
        rw [this] at ht
        cases ht
    · rw [List.take_of_length_le (by rw [List.length_drop]; omega), List.drop_drop]; rfl
    · by_cases e : i < b3
      · exact hsy i e
      · obtain rfl : i = b3 := by omega
        rw [← isSym_ble, ← h3']
        simpa using ht
  · have q := of_decide_eq_false q
    have e : s4 = [] := by rw [e4, e3]; exact List.drop_eq_nil_of_le (by omega)
    refine att_end hlen ⟨fun _ => listB_of fun k hk => ?_, fun _ => e⟩
    by_cases hkb : k < b2
    · rw [← hg k hkb]; exact hsy k (by omega)
    · exact h.2 k (by omega) hk
theorem attach_ok : PcOk Tryz.prog 36 attach := by
  refine pcOf_run (fun _ => ET_ok) Tryz.func36 rfl (by kernel_rfl) (fun x => ⟨by have := attL_len x.1; show (attL x.1).length ≤ _; omega, trivial, trivial⟩)
    (fun x => []) (fun _ => Nat.le_of_ble_eq_true rfl) (fun ⟨b, ()⟩ hp hw => ?_)
  have hlen : b.length ≤ 9223372036854775807 := hw (.str b) (List.mem_cons_self ..)
  refine vc_of (q :=
      ∀ (t1:Bool), (t1=if (b==[])=true then true else [0, (1:UInt8)]==[])→(t1=true→∀ (s1:List UInt8), s1=b→((!s1==[])=true→[]=Mk.attL b∧(6:Int)=Mk.attE b)∧((!s1==[])=false→∀ (v1:Int), v1=(↑(List.length b):Int)→(decide (v1 > (20000:Int))=true→[]=Mk.attL b∧(3:Int)=Mk.attE b)∧(decide (v1 > (20000:Int))=false→∀ (s2:List UInt8), s2=Mk.symL→List.length s2+List.length b≤9223372036854775807∧∀ (s3:List UInt8),
      s3=s2++b→s3=Mk.attL b∧(0:Int)=Mk.attE b)))∧(t1=false→(((↑(List.length [0, (1:UInt8)]):Int)==(1:Int))=true→(0:Int)≤(0:Int))∧(((↑(List.length [0, (1:UInt8)]):Int)==(1:Int))=true→(0:Int) < (↑(List.length [0, (1:UInt8)]):Int))∧[0, (1:UInt8)]=[0, (1:UInt8)]∧∀ (b1:Nat), (b1=b1∧0=0)∧(∃ (x1:Nat), b=List.take x1 b∧x1≤List.length b∧∀ (i1:Nat), x1≤i1→i1 < List.length b→Mk.isSym (List.getD b i1 0)=true)∧∀
      (b2:Nat), (b2≤List.length b∧∀ (i:Nat), b2≤i→i < List.length b→Mk.isSym (List.getD b i 0)=true)→∀ (v1:Int), v1=(↑(List.length (List.take b2 b)):Int)→(decide (v1 > (0:Int))=true→∀ (v2:Int), v2=(↑(List.length (List.take b2 b)):Int)→∀ (v3:Int), v3=IntKind.i64.wrap (v2 - (1:Int))→0≤v3∧v3 < (↑(List.length (List.take b2 b)):Int)∧(0:Int)≤(↑(UInt8.toNat (List.getD (List.take b2 b) (Int.toNat v3)
      0)):Int)∧(↑(UInt8.toNat (List.getD (List.take b2 b) (Int.toNat v3) 0)):Int) < (↑(256:Nat):Int)∧(b1=b1∧0=0)∧Int.toNat (↑(UInt8.toNat (List.getD (List.take b2 b) (Int.toNat v3) 0)):Int) < 256∧∀ (t2:Bool), t2=Nat.ble (Int.toNat (↑(UInt8.toNat (List.getD (List.take b2 b) (Int.toNat v3) 0)):Int)) 1→((!t2)=true→∀ (s2:List UInt8), s2=List.take b2 b→(∃ (x2:Nat), s2=List.drop x2 s2∧x2≤List.length s2∧∀
      (i2:Nat), i2 < x2→Mk.isSym (List.getD s2 i2 0)=true)∧∀ (b3:Nat), (b3≤List.length s2∧∀ (i:Nat), i < b3→Mk.isSym (List.getD s2 i 0)=true)→∀ (v4:Int), v4=(↑(List.length (List.drop b3 s2)):Int)→(decide (v4 > (0:Int))=true→(0:Int)≤(0:Int)∧(0:Int) < (↑(List.length (List.drop b3 s2)):Int)∧(0:Int)≤(↑(UInt8.toNat (List.getD (List.drop b3 s2) (Int.toNat (0:Int)) 0)):Int)∧(↑(UInt8.toNat (List.getD (List.drop
      b3 s2) (Int.toNat (0:Int)) 0)):Int) < (↑(256:Nat):Int)∧(b1=b1∧0=0)∧Int.toNat (↑(UInt8.toNat (List.getD (List.drop b3 s2) (Int.toNat (0:Int)) 0)):Int) < 256∧∀ (t3:Bool), t3=Nat.ble (Int.toNat (↑(UInt8.toNat (List.getD (List.drop b3 s2) (Int.toNat (0:Int)) 0)):Int)) 1→((!t3)=true→∀ (s3:List UInt8), s3=List.drop b3 s2→∀ (s4:List UInt8), s4=s3→((!s4==[])=true→[]=Mk.attL b∧(6:Int)=Mk.attE
      b)∧((!s4==[])=false→∀ (v5:Int), v5=(↑(List.length b):Int)→(decide (v5 > (20000:Int))=true→[]=Mk.attL b∧(3:Int)=Mk.attE b)∧(decide (v5 > (20000:Int))=false→∀ (s5:List UInt8), s5=Mk.symL→List.length s5+List.length b≤9223372036854775807∧∀ (s6:List UInt8), s6=s5++b→s6=Mk.attL b∧(0:Int)=Mk.attE b)))∧((!t3)=false→(0:Int)≤(↑(List.length (List.drop b3 s2)):Int)∧(↑(List.length (List.drop b3
      s2)):Int)≤(↑(List.length (List.drop b3 s2)):Int)∧(0:Int)≤(1:Int)∧(1:Int)≤(↑(List.length (List.drop b3 s2)):Int)∧∃ (x3:Nat), List.drop (Int.toNat (1:Int)) (List.take (Int.toNat (↑(List.length (List.drop b3 s2)):Int)) (List.drop b3 s2))=List.drop x3 s2∧(x3≤List.length s2∧∀ (i3:Nat), i3 < x3→Mk.isSym (List.getD s2 i3 0)=true)∧List.length s2 - x3 < List.length s2 - b3))∧(decide (v4 > (0:Int))=false→∀
      (s3:List UInt8), s3=List.drop b3 s2→∀ (s4:List UInt8), s4=s3→((!s4==[])=true→[]=Mk.attL b∧(6:Int)=Mk.attE b)∧((!s4==[])=false→∀ (v5:Int), v5=(↑(List.length b):Int)→(decide (v5 > (20000:Int))=true→[]=Mk.attL b∧(3:Int)=Mk.attE b)∧(decide (v5 > (20000:Int))=false→∀ (s5:List UInt8), s5=Mk.symL→List.length s5+List.length b≤9223372036854775807∧∀ (s6:List UInt8), s6=s5++b→s6=Mk.attL b∧(0:Int)=Mk.attE
      b))))∧((!t2)=false→∀ (v4:Int), v4=(↑(List.length (List.take b2 b)):Int)→∀ (v5:Int), v5=IntKind.i64.wrap (v4 - (1:Int))→0≤v5∧v5≤(↑(List.length (List.take b2 b)):Int)∧(0:Int)≤(0:Int)∧0≤v5∧∃ (x2:Nat), List.drop (Int.toNat (0:Int)) (List.take (Int.toNat v5) (List.take b2 b))=List.take x2 b∧(x2≤List.length b∧∀ (i2:Nat), x2≤i2→i2 < List.length b→Mk.isSym (List.getD b i2 0)=true)∧x2 < b2))∧(decide (v1 >
      (0:Int))=false→∀ (s2:List UInt8), s2=List.take b2 b→(∃ (x2:Nat), s2=List.drop x2 s2∧x2≤List.length s2∧∀ (i2:Nat), i2 < x2→Mk.isSym (List.getD s2 i2 0)=true)∧∀ (b3:Nat), (b3≤List.length s2∧∀ (i:Nat), i < b3→Mk.isSym (List.getD s2 i 0)=true)→∀ (v3:Int), v3=(↑(List.length (List.drop b3 s2)):Int)→(decide (v3 > (0:Int))=true→(0:Int)≤(0:Int)∧(0:Int) < (↑(List.length (List.drop b3
      s2)):Int)∧(0:Int)≤(↑(UInt8.toNat (List.getD (List.drop b3 s2) (Int.toNat (0:Int)) 0)):Int)∧(↑(UInt8.toNat (List.getD (List.drop b3 s2) (Int.toNat (0:Int)) 0)):Int) < (↑(256:Nat):Int)∧(b1=b1∧0=0)∧Int.toNat (↑(UInt8.toNat (List.getD (List.drop b3 s2) (Int.toNat (0:Int)) 0)):Int) < 256∧∀ (t2:Bool), t2=Nat.ble (Int.toNat (↑(UInt8.toNat (List.getD (List.drop b3 s2) (Int.toNat (0:Int)) 0)):Int))
      1→((!t2)=true→∀ (s3:List UInt8), s3=List.drop b3 s2→∀ (s4:List UInt8), s4=s3→((!s4==[])=true→[]=Mk.attL b∧(6:Int)=Mk.attE b)∧((!s4==[])=false→∀ (v4:Int), v4=(↑(List.length b):Int)→(decide (v4 > (20000:Int))=true→[]=Mk.attL b∧(3:Int)=Mk.attE b)∧(decide (v4 > (20000:Int))=false→∀ (s5:List UInt8), s5=Mk.symL→List.length s5+List.length b≤9223372036854775807∧∀ (s6:List UInt8), s6=s5++b→s6=Mk.attL
      b∧(0:Int)=Mk.attE b)))∧((!t2)=false→(0:Int)≤(↑(List.length (List.drop b3 s2)):Int)∧(↑(List.length (List.drop b3 s2)):Int)≤(↑(List.length (List.drop b3 s2)):Int)∧(0:Int)≤(1:Int)∧(1:Int)≤(↑(List.length (List.drop b3 s2)):Int)∧∃ (x3:Nat), List.drop (Int.toNat (1:Int)) (List.take (Int.toNat (↑(List.length (List.drop b3 s2)):Int)) (List.drop b3 s2))=List.drop x3 s2∧(x3≤List.length s2∧∀ (i3:Nat), i3 <
      x3→Mk.isSym (List.getD s2 i3 0)=true)∧List.length s2 - x3 < List.length s2 - b3))∧(decide (v3 > (0:Int))=false→∀ (s3:List UInt8), s3=List.drop b3 s2→∀ (s4:List UInt8), s4=s3→((!s4==[])=true→[]=Mk.attL b∧(6:Int)=Mk.attE b)∧((!s4==[])=false→∀ (v4:Int), v4=(↑(List.length b):Int)→(decide (v4 > (20000:Int))=true→[]=Mk.attL b∧(3:Int)=Mk.attE b)∧(decide (v4 > (20000:Int))=false→∀ (s5:List UInt8),
      s5=Mk.symL→List.length s5+List.length b≤9223372036854775807∧∀ (s6:List UInt8), s6=s5++b→s6=Mk.attL b∧(0:Int)=Mk.attE b)))))) (by kernel_rfl) ?_
  try simp only [eq_self, true_and, and_true, Nat.le_refl, implies_true, forall_const, Bool.false_eq_true, Bool.true_eq_false, reduceCtorEq, false_imp_iff, true_imp_iff, Int.toNat_zero, Int.toNat_natCast, Nat.zero_lt_one, Int.le_refl, allGet]
  intro t1 ht1
  refine ⟨fun h s1 hs1 => att_end hlen ?_, fun h => ⟨fun _ => by decide, ⟨b.length, (List.take_of_length_le (Nat.le_refl _)).symm, Nat.le_refl _, fun i h1 h2 => by omega⟩, ?_⟩⟩
  · have hb : b = [] := by
      rw [h] at ht1
      by_cases q : (b == []) = true
      · simpa using q
      · rw [if_neg q] at ht1; cases ht1
    rw [hs1, hb]
    exact ⟨fun _ => rfl, fun _ => rfl⟩
  rintro b2 hb2 v1 h1
  refine ⟨fun q v2 h2 v3 h3 => ?_, fun q s2 hs2 => att_left hlen hb2 hs2⟩
  have q := of_decide_eq_true q
  have hlt : (List.take b2 b).length = b2 := by rw [List.length_take]; have := hb2.1; omega
  rw [hlt] at h1 h2 ⊢
  subst h1 h2
  have e3 : v3 = ((b2 - 1 : Nat) : Int) := by rw [h3, w64_id (by omega) (by have := hb2.1; omega)]; omega
  subst e3
  rw [toNat_nat, take_getD (by omega)]
  have hu := u8_lt (b.getD (b2 - 1) 0)
  refine ⟨by omega, by omega, by omega, by omega, hu, fun t2 ht2 => ⟨fun ht s2 hs2 => att_left hlen hb2 hs2, fun ht v4 h4 v5 h5 => ?_⟩⟩
  subst h4
  have e5 : v5 = ((b2 - 1 : Nat) : Int) := by rw [h5, w64_id (by omega) (by have := hb2.1; omega)]; omega
  subst e5
  rw [toNat_nat]
  refine ⟨by omega, by omega, by omega, b2 - 1, ?_, ⟨by have := hb2.1; omega, fun i hi1 hi2 => ?_⟩, by omega⟩
  · rw [List.drop_zero, List.take_take, Nat.min_eq_left (by omega)]
  · by_cases e : i = b2 - 1
    · subst e
      rw [← isSym_ble, ← ht2]
      simpa using ht
    · exact hb2.2 i (by omega) hi2
def EL : Env := (E0.addP 52 syms).addP 51 listP
theorem EL_ok : EnvOk Tryz.prog EL := (E0_ok.addP symsR_ok).addP list_ok
/-! ### soft values -/
def softF (l : List UInt8) (k : Nat) : Int := 14 * ((l.getD k 0).toNat : Int) - 7
def soften := ecC aStr (fun x => [listB x.1 = true, x.1.length ≤ 40000, 0 < x.1.length]) (fun x (y : Nat × Nat × Nat) => x.1.length ≤ y.2.2) (fun x y => .tup [.slice 0 y.1 y.2.1 [] 1 0 x.1.length y.2.2 false, .int .i64 0]) (fun x y => [⟨0, y.1, y.2.1, 1, x.1.length, fun k => .int .i64 (softF x.1 k), true, false, y.2.2, 3, false, none⟩]) 1
theorem soften_ok : EcOk Tryz.prog 45 soften := by
  refine ecC_run (fun _ => EL_ok) Tryz.func45 rfl (by kernel_rfl) []
    (fun x => [.loop ⟨5, Nat × Nat × Nat × Nat, [4, 5], fun y => [.slice 500 y.2.1 y.2.2.1 [] 1 0 y.1 y.2.2.2 (Nat.beq y.1 0), .int .i64 (y.1 : Nat)], [], fun y => [⟨500, y.2.1, y.2.2.1, 1, y.1, fun k => .int .i64 (softF x.1 k), true, false, y.2.2.2, 3, Nat.beq y.1 0, none⟩], fun y => y.1 ≤ x.1.length ∧ y.1 ≤ y.2.2.2, fun y => x.1.length - y.1⟩]) (fun _ => Nat.le_of_ble_eq_true rfl) (fun ⟨b, ()⟩ hp hw => ?_)
  refine vc_of (q :=
      ∀ (t1:Bool), t1=Mk.listB b→((!t1)=true→∃ (x1:Nat × Nat × Nat), (SVeq (SV.slice 999999 0 0 [] 0 0 0 0 true) (SV.slice 0 x1.1 x1.2.1 [] 1 0 (List.length b) x1.2.2 false)∧(6:Int)=(0:Int))∧(false=true∧List.length b=0∧x1.2.2=0)∧Nat.le (List.length b) x1.2.2)∧((!t1)=false→(∃ (x2:Nat × Nat × Nat × Nat), SVeq (SV.slice 999999 0 0 [] 0 0 0 0 true) (SV.slice 500 x2.2.1 x2.2.2.1 [] 1 0 x2.1 x2.2.2.2 (Nat.beq
      x2.1 0))∧(0:Int)=(↑x2.1:Int)∧(Nat.beq x2.1 0=true∧x2.1=0∧x2.2.2.2=0)∧x2.1≤List.length b∧x2.1≤x2.2.2.2)∧∀ (x3:Nat × Nat × Nat × Nat), x3.1≤List.length b∧x3.1≤x3.2.2.2→∀ (v1:Int), v1=(↑(List.length b):Int)→(decide ((↑x3.1:Int) < v1)=true→(0:Int)≤(↑x3.1:Int)∧(↑x3.1:Int) < (↑(List.length b):Int)∧∀ (v2:Int), v2=IntKind.i64.wrap (↑(UInt8.toNat (List.getD b (Int.toNat (↑x3.1:Int)) 0)):Int)→∀ (v3:Int),
      v3=IntKind.i64.wrap ((14:Int)*v2)→∀ (v4:Int), v4=IntKind.i64.wrap (v3 - (7:Int))→∀ (b1:Nat), (x3.2.1=x3.2.1∧x3.2.2.1=x3.2.2.1)∧(Nat.beq x3.1 0=true→Nat.beq x3.1 0=true)∧0=0∧x3.1≤x3.1∧x3.2.2.2≤x3.2.2.2∧(x3.1+1)*8≤140737488355328∧x3.1+1≤9223372036854775807∧1≤1∧(b1=b1∧0=0)∧∀ (b2 b3 b4:Nat), x3.1+1≤b4→b4≤9223372036854775807→(Nat.beq x3.1 0=true→1=0→b4=0)→∀ (v5:Int), v5=IntKind.i64.wrap
      ((↑x3.1:Int)+(1:Int))→∃ (x4:Nat × Nat × Nat × Nat), (b2=x4.2.1∧b3=x4.2.2.1∧0=0∧x3.1+1=x4.1∧b4=x4.2.2.2∧(Nat.beq x3.1 0&&decide (1=0))=Nat.beq x4.1 0)∧v5=(↑x4.1:Int)∧((b2=x4.2.1∧b3=x4.2.2.1∧(Nat.beq x3.1 0&&decide (1=0))=Nat.beq x4.1 0∧x4.1≤x3.1+1∧x4.1≤x4.2.2.2∧x4.2.2.2≤b4)∧∀ (i1:Nat), i1 < x4.1→(if i1 < x3.1 then Mk.softF b i1 else v4)=Mk.softF b i1)∧(x4.1≤List.length b∧x4.1≤x4.2.2.2)∧List.length b
      - x4.1 < List.length b - x3.1)∧(decide ((↑x3.1:Int) < v1)=false→∃ (x4:Nat × Nat × Nat), ((x3.2.1=x4.1∧x3.2.2.1=x4.2.1∧0=0∧x3.1=List.length b∧x3.2.2.2=x4.2.2∧Nat.beq x3.1 0=false)∧(0:Int)=(0:Int))∧((x3.2.1=x4.1∧x3.2.2.1=x4.2.1∧Nat.beq x3.1 0=false∧List.length b≤x3.1∧List.length b≤x4.2.2∧x4.2.2≤x3.2.2.2)∧∀ (i1:Nat), i1 < List.length b→Mk.softF b i1=Mk.softF b i1)∧Nat.le (List.length b) x4.2.2))) (by kernel_rfl) ?_
  try simp only [eq_self, true_and, and_true, Nat.le_refl, implies_true, forall_const, Bool.false_eq_true, Bool.true_eq_false, reduceCtorEq, false_imp_iff, true_imp_iff, Int.toNat_zero, Int.toNat_natCast, Nat.zero_lt_one, Int.le_refl, allGet]
  obtain ⟨p1, p2, p3, _⟩ := hp
  dsimp only at p1 p2 p3
  intro t1 ht1
  refine ⟨fun h => (by rw [ht1, p1] at h; cases h), fun h => ⟨⟨(0, 0, 0, 0), nil_eqv rfl rfl rfl, rfl, ⟨rfl, rfl, rfl⟩, Nat.zero_le _, Nat.zero_le _⟩, ?_⟩⟩
  rintro ⟨i, bb, o, c⟩ ⟨hi, hc⟩ v1 h1
  dsimp only at hi hc ⊢
  subst h1
  refine ⟨fun hlt => ?_, fun hge => ?_⟩
  · have hlt := of_decide_eq_true hlt
    have hu := u8_lt (b.getD i 0)
    refine ⟨by omega, by omega, fun v2 h2 v3 h3 v4 h4 => ⟨fun h => h, by omega, by omega, fun b2 b3 b4 h4' _ v5 h5 => ?_⟩⟩
    have e2 : v2 = ((b.getD i 0).toNat : Int) := by rw [h2, w64_id (by omega) (by omega)]
    have e3 : v3 = 14 * ((b.getD i 0).toNat : Int) := by rw [h3, e2, w64_id (by omega) (by omega)]
    have e4 : v4 = softF b i := by rw [h4, e3, w64_id (by omega) (by omega)]; rfl
    exact app_leaf (J := fun i => (i : Int)) (by omega) e4 h4' (h5.trans (l_succ (by omega)))
  · have hge := of_decide_eq_false hge
    obtain rfl : i = b.length := by omega
    have hz : Nat.beq b.length 0 = false := by cases hb : b.length with | zero => omega | succ n => rfl
    exact ⟨(bb, o, c), ⟨rfl, rfl, rfl, rfl, hz⟩, ⟨rfl, rfl, hz, Nat.le_refl _, hc, Nat.le_refl _⟩, hc⟩
/-! ### a bit of a string -/
def bitF (l : List UInt8) (i : Nat) : Int := ((l.getD (i / 8) 0).toNat / 2 ^ (7 - i % 8) % 2 : Nat)
end Mk
