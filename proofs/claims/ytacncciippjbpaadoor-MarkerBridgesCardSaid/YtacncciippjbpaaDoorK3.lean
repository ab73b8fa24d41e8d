/-
  OWN WORK. Marker: Attach; soft values of symbols.
-/
import Derived.Test.YtacncciippjbpaaDoorK2
namespace Mk
open Go Go.Proofs Eng
set_option linter.unusedVariables false
set_option linter.unusedSimpArgs false
set_option maxRecDepth 100000
set_option maxHeartbeats 4000000

/-! ### strings.Trim at the bytes 0 and 1 -/
def set01 := pcOf aStr (fun x => [x.1 = [0, 1]]) (fun _ => .tup [.arr 256 1 fun k => .bool (Nat.ble k 1), .bool true])
theorem set01_ok : PcOk Tryd.prog 47 set01 := by
  refine pcOf_run (fun _ => E0_ok) Tryd.func47 rfl (by kernel_rfl) (fun x => ⟨fun i hi => ⟨trivial, rfl, rfl⟩, trivial, trivial⟩)
    (fun x => [.loop ⟨2, Nat × Nat, [2, 4], fun y => [.ptr 0 y.2 0 [.elt 0 256], .int .i64 (y.1 : Nat)], [0], fun y => [⟨0, y.2, 0, 256, 1, fun _ => .arr 256 1 fun k => .bool (Nat.blt k y.1), true, true, 1, 80, false, none⟩], fun y => y.1 ≤ 2, fun y => 2 - y.1⟩]) (fun _ => Nat.le_of_ble_eq_true rfl) (fun ⟨b, ()⟩ hp _ => ?_)
  obtain ⟨hb, _⟩ := hp
  obtain rfl : b = [0, 1] := hb
  refine vc_of (q :=
      ∀ (b1 : Nat), (∃ (x1 : Nat × Nat), ((0 : Nat) = (0 : Nat) ∧ b1 = Prod.snd x1 ∧ (0 : Nat) = (0 : Nat)) ∧ (0 : Int) = (↑(Prod.fst x1) : Int) ∧ ((b1 = Prod.snd x1 ∧ (0 : Nat) = (0 : Nat) ∧ Bool.false = Bool.false ∧ (1 : Nat) ≤ (1 : Nat) ∧ (1 : Nat) ≤ (1 : Nat) ∧ (1 : Nat) ≤ (1 : Nat)) ∧ Eng.SVeq (Eng.SV.arr (256 : Nat) (1 : Nat) fun (x : Nat) ↦ Eng.SV.bool Bool.false) (Eng.SV.arr (256 : Nat) (1 : Nat)
      fun (k : Nat) ↦ Eng.SV.bool (Nat.blt k (Prod.fst x1)))) ∧ Nat.le (Prod.fst x1) (2 : Nat)) ∧ ∀ (x2 : Nat × Nat), Prod.fst x2 ≤ (2 : Nat) → ∀ (v1 : Int), v1 = (↑(List.length [(0 : UInt8), (1 : UInt8)]) : Int) → (Decidable.decide ((↑(Prod.fst x2) : Int) < v1) = Bool.true → (0 : Int) ≤ (↑(Prod.fst x2) : Int) ∧ (↑(Prod.fst x2) : Int) < (↑(List.length [(0 : UInt8), (1 : UInt8)]) : Int) ∧
      (Decidable.decide ((↑(UInt8.toNat (List.getD [(0 : UInt8), (1 : UInt8)] (Int.toNat (↑(Prod.fst x2) : Int)) (0 : UInt8))) : Int) ≥ (128 : Int)) = Bool.true → (Prod.snd x2 = Prod.snd x2 ∧ (0 : Nat) = (0 : Nat)) ∧ (Prod.snd x2 = Prod.snd x2 ∧ (0 : Nat) = (0 : Nat)) ∧ (Prod.snd x2 = Prod.snd x2 ∧ (0 : Nat) = (0 : Nat)) ∧ Eng.SVeq (Eng.SV.arr (256 : Nat) (1 : Nat) fun (k : Nat) ↦ Eng.SV.bool (Nat.blt k
      (Prod.fst x2))) (Eng.SV.arr (256 : Nat) (1 : Nat) fun (k : Nat) ↦ Eng.SV.bool (Nat.ble k (1 : Nat))) ∧ Bool.false = Bool.true) ∧ (Decidable.decide ((↑(UInt8.toNat (List.getD [(0 : UInt8), (1 : UInt8)] (Int.toNat (↑(Prod.fst x2) : Int)) (0 : UInt8))) : Int) ≥ (128 : Int)) = Bool.false → (0 : Int) ≤ (↑(UInt8.toNat (List.getD [(0 : UInt8), (1 : UInt8)] (Int.toNat (↑(Prod.fst x2) : Int)) (0 : UInt8)))
      : Int) ∧ (↑(UInt8.toNat (List.getD [(0 : UInt8), (1 : UInt8)] (Int.toNat (↑(Prod.fst x2) : Int)) (0 : UInt8))) : Int) < (↑(256 : Nat) : Int) ∧ (Prod.snd x2 = Prod.snd x2 ∧ (0 : Nat) = (0 : Nat)) ∧ Int.toNat (↑(UInt8.toNat (List.getD [(0 : UInt8), (1 : UInt8)] (Int.toNat (↑(Prod.fst x2) : Int)) (0 : UInt8))) : Int) < (256 : Nat) ∧ ∀ (v2 : Int), v2 = Go.IntKind.wrap Go.IntKind.i64 ((↑(Prod.fst x2) :
      Int) + (1 : Int)) → ∃ (x3 : Nat × Nat), ((0 : Nat) = (0 : Nat) ∧ Prod.snd x2 = Prod.snd x3 ∧ (0 : Nat) = (0 : Nat)) ∧ v2 = (↑(Prod.fst x3) : Int) ∧ ((Prod.snd x2 = Prod.snd x3 ∧ (0 : Nat) = (0 : Nat) ∧ Bool.false = Bool.false ∧ (1 : Nat) ≤ (1 : Nat) ∧ (1 : Nat) ≤ (1 : Nat) ∧ (1 : Nat) ≤ (1 : Nat)) ∧ Eng.SVeq (Eng.SV.arr (256 : Nat) (1 : Nat) fun (k : Nat) ↦ Eng.SV.bool (if k = Int.toNat
      (↑(UInt8.toNat (List.getD [(0 : UInt8), (1 : UInt8)] (Int.toNat (↑(Prod.fst x2) : Int)) (0 : UInt8))) : Int) then Bool.true else Nat.blt k (Prod.fst x2))) (Eng.SV.arr (256 : Nat) (1 : Nat) fun (k : Nat) ↦ Eng.SV.bool (Nat.blt k (Prod.fst x3)))) ∧ Prod.fst x3 ≤ (2 : Nat) ∧ (2 : Nat) - Prod.fst x3 < (2 : Nat) - Prod.fst x2)) ∧ (Decidable.decide ((↑(Prod.fst x2) : Int) < v1) = Bool.false → (Prod.snd
      x2 = Prod.snd x2 ∧ (0 : Nat) = (0 : Nat)) ∧ (Prod.snd x2 = Prod.snd x2 ∧ (0 : Nat) = (0 : Nat)) ∧ (Prod.snd x2 = Prod.snd x2 ∧ (0 : Nat) = (0 : Nat)) ∧ Eng.SVeq (Eng.SV.arr (256 : Nat) (1 : Nat) fun (k : Nat) ↦ Eng.SV.bool (Nat.blt k (Prod.fst x2))) (Eng.SV.arr (256 : Nat) (1 : Nat) fun (k : Nat) ↦ Eng.SV.bool (Nat.ble k (1 : Nat))) ∧ Bool.true = Bool.true)) (by kernel_rfl) ?_
  try simp only [eq_self, true_and, and_true, Nat.le_refl, implies_true, forall_const, Bool.false_eq_true, Bool.true_eq_false, reduceCtorEq, false_imp_iff, true_imp_iff, Int.toNat_zero, Int.toNat_natCast, Nat.zero_lt_one, Int.le_refl, allGet]
  refine fun b1 => ⟨⟨(0, b1), rfl, rfl, ⟨rfl, arr_sveq0 fun k hk => rfl⟩, Nat.zero_le _⟩, ?_⟩
  rintro ⟨i, b⟩ hi v1 h1
  dsimp only at hi ⊢
  have e1 : v1 = 2 := h1
  subst e1
  have hg : ∀ i, i < 2 → (([0, 1] : List UInt8).getD i 0).toNat = i := by decide
  refine ⟨fun hlt => ?_, fun hge => ?_⟩
  · have hlt := of_decide_eq_true hlt
    have hg := hg i (by omega)
    refine ⟨by omega, by show (i : Int) < 2; omega, fun h => ?_, fun h => ⟨by omega, by omega, by omega, fun v2 h2 => ?_⟩⟩
    · have h := of_decide_eq_true h
      omega
    · refine ⟨(i + 1, b), rfl, h2.trans (l_succ (by omega)), ⟨rfl, arr_sveq0 fun k hk => ?_⟩, by show i + 1 ≤ 2; omega, by show 2 - (i + 1) < 2 - i; omega⟩
      refine congrArg SV.bool ?_
      show _ = Nat.blt k (i + 1)
      split
      · rename_i e
        rw [Bool.eq_iff_iff, Nat.blt_eq]
        exact ⟨fun _ => by omega, fun _ => rfl⟩
      · rename_i e
        rw [Bool.eq_iff_iff, Nat.blt_eq, Nat.blt_eq]; omega
  · have hge := of_decide_eq_false hge
    obtain rfl : i = 2 := by omega
    exact arr_sveq0 fun k hk => congrArg SV.bool (by rw [Bool.eq_iff_iff, Nat.blt_eq, Nat.ble_eq]; omega)
def anL (l : List UInt8) : List An := [.lp 1 Nat [0] (fun k => [.str (l.drop k)]) (fun k => k ≤ l.length ∧ ∀ i, i < k → isSym (l.getD i 0) = true) fun k => l.length - k]
def anR (l : List UInt8) : List An := [.lp 1 Nat [0] (fun k => [.str (l.take k)]) (fun k => k ≤ l.length ∧ ∀ i, k ≤ i → i < l.length → isSym (l.getD i 0) = true) fun k => k]
def ET1 : Env := (E0.addP 33 syms).addP 47 set01
theorem ET1_ok : EnvOk Tryd.prog ET1 := (E0_ok.addP syms_ok).addP set01_ok
def ET2 : Env := ET1.inl 56 Tryd.f56 fun _ _ => []
theorem ET2_ok : EnvOk Tryd.prog ET2 := ET1_ok.inl _ Tryd.func56 rfl (by kernel_rfl)
def ET3 : Env := (ET2.inl 48 Tryd.f48 fun a _ => match a with | .str l :: _ => anL l | _ => []).inl 49 Tryd.f49 fun a _ => match a with | .str l :: _ => anR l | _ => []
theorem ET3_ok : EnvOk Tryd.prog ET3 := (ET2_ok.inl _ Tryd.func48 rfl (by kernel_rfl)).inl _ Tryd.func49 rfl (by kernel_rfl)
def ET : Env := ET3.inl 32 Tryd.f32 fun _ _ => [.raw 3, .raw 5, .det 4, .det 7]
theorem ET_ok : EnvOk Tryd.prog ET := ET3_ok.inl _ Tryd.func32 rfl (by kernel_rfl)
/-! ### Attach -/
def attL (l : List UInt8) : List UInt8 := if listB l = true ∧ l.length ≤ 20000 then symL ++ l else []
def attE (l : List UInt8) : Int := if listB l = true then (if l.length ≤ 20000 then 0 else 3) else 6
def attach := pcOf aStr (fun x => []) (fun x => .tup [.str (attL x.1), .int .i64 (attE x.1)])
theorem symL_len : symL.length = 32 := bytof_len _ _
theorem attL_len (l : List UInt8) : (attL l).length ≤ 20032 := by
  unfold attL
  split
  · rw [List.length_append, symL_len]; omega
  · exact Nat.zero_le _
theorem att_end {b s4 : List UInt8} (hlen : b.length ≤ 9223372036854775807) (h : s4 = [] ↔ listB b = true) :
    ((!s4 == []) = true → [] = attL b ∧ 6 = attE b) ∧ ((!s4 == []) = false → ∀ v1 : Int, v1 = (b.length : Int) → (decide (v1 > 20000) = true → [] = attL b ∧ 3 = attE b) ∧ (decide (v1 > 20000) = false → ∀ s2 : List UInt8, s2 = symL → s2.length + b.length ≤ 9223372036854775807 ∧ ∀ s3 : List UInt8, s3 = s2 ++ b → s3 = attL b ∧ 0 = attE b)) := by
  refine ⟨fun q => ?_, fun q v1 h1 => ?_⟩
  · have hb : ¬ listB b = true := by rw [← h]; simpa using q
    exact ⟨by rw [attL, if_neg (fun q => hb q.1)], by rw [attE, if_neg hb]⟩
  · have hb : listB b = true := by rw [← h]; simpa using q
    subst h1
    refine ⟨fun q => ?_, fun q s2 h2 => ?_⟩
    · have q := of_decide_eq_true q
      exact ⟨by rw [attL, if_neg (by omega)], by rw [attE, if_pos hb, if_neg (by omega)]⟩
    · have q := of_decide_eq_false q
      have hl := symL_len
      subst h2
      exact ⟨by omega, fun s3 h3 => ⟨by rw [h3, attL, if_pos ⟨hb, by omega⟩], by rw [attE, if_pos hb, if_pos (by omega)]⟩⟩
theorem isSym_ble (x : UInt8) : Nat.ble x.toNat 1 = isSym x := rfl
theorem take_getD {b : List UInt8} {n i : Nat} (h : i < n) : (List.take n b).getD i 0 = b.getD i 0 := by
  rw [List.getD_eq_getElem?_getD, List.getD_eq_getElem?_getD, List.getElem?_take_of_lt h]
theorem drop_getD (b : List UInt8) (n i : Nat) : (List.drop n b).getD i 0 = b.getD (n + i) 0 := by
  rw [List.getD_eq_getElem?_getD, List.getD_eq_getElem?_getD, List.getElem?_drop]
theorem att_left {b s2 : List UInt8} {b2 : Nat} (hlen : b.length ≤ 9223372036854775807) (h : b2 ≤ b.length ∧ ∀ i, b2 ≤ i → i < b.length → isSym (b.getD i 0) = true) (hs : s2 = List.take b2 b) :
    (∃ x2, s2 = List.drop x2 s2 ∧ x2 ≤ s2.length ∧ ∀ i2 : Nat, i2 < x2 → isSym (s2.getD i2 0) = true) ∧
    ∀ b3 : Nat, (b3 ≤ s2.length ∧ ∀ i : Nat, i < b3 → isSym (s2.getD i 0) = true) → ∀ v4 : Int, v4 = ((List.drop b3 s2).length : Int) →
      (decide (v4 > 0) = true → 0 < ((List.drop b3 s2).length : Int) ∧ 0 ≤ (((List.drop b3 s2).getD 0 0).toNat : Int) ∧ (((List.drop b3 s2).getD 0 0).toNat : Int) < ((256 : Nat) : Int) ∧ ((List.drop b3 s2).getD 0 0).toNat < 256 ∧
        ∀ t3 : Bool, t3 = Nat.ble ((List.drop b3 s2).getD 0 0).toNat 1 →
          ((!t3) = true → ∀ s3 : List UInt8, s3 = List.drop b3 s2 → ∀ s4 : List UInt8, s4 = s3 →
            ((!s4 == []) = true → [] = attL b ∧ 6 = attE b) ∧ ((!s4 == []) = false → ∀ v1 : Int, v1 = (b.length : Int) → (decide (v1 > 20000) = true → [] = attL b ∧ 3 = attE b) ∧ (decide (v1 > 20000) = false → ∀ s2 : List UInt8, s2 = symL → s2.length + b.length ≤ 9223372036854775807 ∧ ∀ s3 : List UInt8, s3 = s2 ++ b → s3 = attL b ∧ 0 = attE b))) ∧
          ((!t3) = false → 0 ≤ ((List.drop b3 s2).length : Int) ∧ (0 : Int) ≤ 1 ∧ 1 ≤ ((List.drop b3 s2).length : Int) ∧
            ∃ x3, List.drop (Int.toNat 1) (List.take (List.drop b3 s2).length (List.drop b3 s2)) = List.drop x3 s2 ∧ (x3 ≤ s2.length ∧ ∀ i3 : Nat, i3 < x3 → isSym (s2.getD i3 0) = true) ∧ s2.length - x3 < s2.length - b3)) ∧
      (decide (v4 > 0) = false → ∀ s3 : List UInt8, s3 = List.drop b3 s2 → ∀ s4 : List UInt8, s4 = s3 →
        ((!s4 == []) = true → [] = attL b ∧ 6 = attE b) ∧ ((!s4 == []) = false → ∀ v1 : Int, v1 = (b.length : Int) → (decide (v1 > 20000) = true → [] = attL b ∧ 3 = attE b) ∧ (decide (v1 > 20000) = false → ∀ s2 : List UInt8, s2 = symL → s2.length + b.length ≤ 9223372036854775807 ∧ ∀ s3 : List UInt8, s3 = s2 ++ b → s3 = attL b ∧ 0 = attE b))) := by
  have hl2 : s2.length = b2 := by rw [hs, List.length_take]; omega
  have hg : ∀ i, i < b2 → s2.getD i 0 = b.getD i 0 := fun i hi => by rw [hs, take_getD hi]
  refine ⟨⟨0, rfl, Nat.zero_le _, fun _ hi => by omega⟩, fun b3 ⟨h3, hsy⟩ v4 h4 => ?_⟩
  rw [List.length_drop] at h4 ⊢
  subst h4
  refine ⟨fun q => ?_, fun q s3 e3 s4 e4 => ?_⟩
  · have q := of_decide_eq_true q
    rw [drop_getD, Nat.add_zero]
    have hu := u8_lt (s2.getD b3 0)
    refine ⟨by omega, by omega, by omega, hu, fun t3 h3' => ⟨fun ht s3 e3 s4 e4 => ?_, fun ht => ⟨by omega, by omega, by omega, b3 + 1, ?_, ⟨by omega, fun i hi => ?_⟩, by omega⟩⟩⟩
    · rw [e4, e3]
      refine att_end hlen ⟨fun e => ?_, fun hb => ?_⟩
      · have := congrArg List.length e
        rw [List.length_drop, List.length_nil] at this
        omega
      · have := listB_get hb b3 (by omega)
        rw [← hg b3 (by omega), ← isSym_ble, ← h3'] at this
        rw [this] at ht
        cases ht
    · rw [List.take_of_length_le (by rw [List.length_drop]; omega), List.drop_drop]; rfl
    · by_cases e : i < b3
      · exact hsy i e
      · obtain rfl : i = b3 := by omega
        rw [← isSym_ble, ← h3']
        simpa using ht
  · have q := of_decide_eq_false q
    have e : s4 = [] := by rw [e4, e3]; exact List.drop_eq_nil_of_le (by omega)
    refine att_end hlen ⟨fun _ => listB_of fun k hk => ?_, fun _ => e⟩
    by_cases hkb : k < b2
    · rw [← hg k hkb]; exact hsy k (by omega)
    · exact h.2 k (by omega) hk
theorem attach_ok : PcOk Tryd.prog 14 attach := by
  refine pcOf_run (fun _ => ET_ok) Tryd.func14 rfl (by kernel_rfl) (fun x => ⟨by have := attL_len x.1; show (attL x.1).length ≤ _; omega, trivial, trivial⟩)
    (fun x => []) (fun _ => Nat.le_of_ble_eq_true rfl) (fun ⟨b, ()⟩ hp hw => ?_)
  have hlen : b.length ≤ 9223372036854775807 := hw (.str b) (List.mem_cons_self ..)
  refine vc_of (q :=
      ∀ (t1 : Bool), (t1 = if (b == []) = Bool.true then Bool.true else [(0 : UInt8), (1 : UInt8)] == []) → (t1 = Bool.true → ∀ (s1 : List UInt8), s1 = b → ((!s1 == []) = Bool.true → [] = Mk.attL b ∧ (6 : Int) = Mk.attE b) ∧ ((!s1 == []) = Bool.false → ∀ (v1 : Int), v1 = (↑(List.length b) : Int) → (Decidable.decide (v1 > (20000 : Int)) = Bool.true → [] = Mk.attL b ∧ (3 : Int) = Mk.attE b) ∧
      (Decidable.decide (v1 > (20000 : Int)) = Bool.false → ∀ (s2 : List UInt8), s2 = Mk.symL → List.length s2 + List.length b ≤ (9223372036854775807 : Nat) ∧ ∀ (s3 : List UInt8), s3 = s2 ++ b → s3 = Mk.attL b ∧ (0 : Int) = Mk.attE b))) ∧ (t1 = Bool.false → (((↑(List.length [(0 : UInt8), (1 : UInt8)]) : Int) == (1 : Int)) = Bool.true → (0 : Int) ≤ (0 : Int)) ∧ (((↑(List.length [(0 : UInt8), (1 : UInt8)])
      : Int) == (1 : Int)) = Bool.true → (0 : Int) < (↑(List.length [(0 : UInt8), (1 : UInt8)]) : Int)) ∧ [(0 : UInt8), (1 : UInt8)] = [(0 : UInt8), (1 : UInt8)] ∧ ∀ (b1 : Nat), (b1 = b1 ∧ (0 : Nat) = (0 : Nat)) ∧ (∃ (x1 : Nat), b = List.take x1 b ∧ x1 ≤ List.length b ∧ ∀ (i1 : Nat), x1 ≤ i1 → i1 < List.length b → Mk.isSym (List.getD b i1 (0 : UInt8)) = Bool.true) ∧ ∀ (b2 : Nat), (b2 ≤ List.length b ∧ ∀
      (i : Nat), b2 ≤ i → i < List.length b → Mk.isSym (List.getD b i (0 : UInt8)) = Bool.true) → ∀ (v1 : Int), v1 = (↑(List.length (List.take b2 b)) : Int) → (Decidable.decide (v1 > (0 : Int)) = Bool.true → ∀ (v2 : Int), v2 = (↑(List.length (List.take b2 b)) : Int) → ∀ (v3 : Int), v3 = Go.IntKind.wrap Go.IntKind.i64 (v2 - (1 : Int)) → (0 : Int) ≤ v3 ∧ v3 < (↑(List.length (List.take b2 b)) : Int) ∧ (0 :
      Int) ≤ (↑(UInt8.toNat (List.getD (List.take b2 b) (Int.toNat v3) (0 : UInt8))) : Int) ∧ (↑(UInt8.toNat (List.getD (List.take b2 b) (Int.toNat v3) (0 : UInt8))) : Int) < (↑(256 : Nat) : Int) ∧ (b1 = b1 ∧ (0 : Nat) = (0 : Nat)) ∧ Int.toNat (↑(UInt8.toNat (List.getD (List.take b2 b) (Int.toNat v3) (0 : UInt8))) : Int) < (256 : Nat) ∧ ∀ (t2 : Bool), t2 = Nat.ble (Int.toNat (↑(UInt8.toNat (List.getD
      (List.take b2 b) (Int.toNat v3) (0 : UInt8))) : Int)) (1 : Nat) → ((!t2) = Bool.true → ∀ (s2 : List UInt8), s2 = List.take b2 b → (∃ (x2 : Nat), s2 = List.drop x2 s2 ∧ x2 ≤ List.length s2 ∧ ∀ (i2 : Nat), i2 < x2 → Mk.isSym (List.getD s2 i2 (0 : UInt8)) = Bool.true) ∧ ∀ (b3 : Nat), (b3 ≤ List.length s2 ∧ ∀ (i : Nat), i < b3 → Mk.isSym (List.getD s2 i (0 : UInt8)) = Bool.true) → ∀ (v4 : Int), v4 =
      (↑(List.length (List.drop b3 s2)) : Int) → (Decidable.decide (v4 > (0 : Int)) = Bool.true → (0 : Int) ≤ (0 : Int) ∧ (0 : Int) < (↑(List.length (List.drop b3 s2)) : Int) ∧ (0 : Int) ≤ (↑(UInt8.toNat (List.getD (List.drop b3 s2) (Int.toNat (0 : Int)) (0 : UInt8))) : Int) ∧ (↑(UInt8.toNat (List.getD (List.drop b3 s2) (Int.toNat (0 : Int)) (0 : UInt8))) : Int) < (↑(256 : Nat) : Int) ∧ (b1 = b1 ∧ (0 :
      Nat) = (0 : Nat)) ∧ Int.toNat (↑(UInt8.toNat (List.getD (List.drop b3 s2) (Int.toNat (0 : Int)) (0 : UInt8))) : Int) < (256 : Nat) ∧ ∀ (t3 : Bool), t3 = Nat.ble (Int.toNat (↑(UInt8.toNat (List.getD (List.drop b3 s2) (Int.toNat (0 : Int)) (0 : UInt8))) : Int)) (1 : Nat) → ((!t3) = Bool.true → ∀ (s3 : List UInt8), s3 = List.drop b3 s2 → ∀ (s4 : List UInt8), s4 = s3 → ((!s4 == []) = Bool.true → [] =
      Mk.attL b ∧ (6 : Int) = Mk.attE b) ∧ ((!s4 == []) = Bool.false → ∀ (v5 : Int), v5 = (↑(List.length b) : Int) → (Decidable.decide (v5 > (20000 : Int)) = Bool.true → [] = Mk.attL b ∧ (3 : Int) = Mk.attE b) ∧ (Decidable.decide (v5 > (20000 : Int)) = Bool.false → ∀ (s5 : List UInt8), s5 = Mk.symL → List.length s5 + List.length b ≤ (9223372036854775807 : Nat) ∧ ∀ (s6 : List UInt8), s6 = s5 ++ b → s6 =
      Mk.attL b ∧ (0 : Int) = Mk.attE b))) ∧ ((!t3) = Bool.false → (0 : Int) ≤ (↑(List.length (List.drop b3 s2)) : Int) ∧ (↑(List.length (List.drop b3 s2)) : Int) ≤ (↑(List.length (List.drop b3 s2)) : Int) ∧ (0 : Int) ≤ (1 : Int) ∧ (1 : Int) ≤ (↑(List.length (List.drop b3 s2)) : Int) ∧ ∃ (x3 : Nat), List.drop (Int.toNat (1 : Int)) (List.take (Int.toNat (↑(List.length (List.drop b3 s2)) : Int)) (List.drop
      b3 s2)) = List.drop x3 s2 ∧ (x3 ≤ List.length s2 ∧ ∀ (i3 : Nat), i3 < x3 → Mk.isSym (List.getD s2 i3 (0 : UInt8)) = Bool.true) ∧ List.length s2 - x3 < List.length s2 - b3)) ∧ (Decidable.decide (v4 > (0 : Int)) = Bool.false → ∀ (s3 : List UInt8), s3 = List.drop b3 s2 → ∀ (s4 : List UInt8), s4 = s3 → ((!s4 == []) = Bool.true → [] = Mk.attL b ∧ (6 : Int) = Mk.attE b) ∧ ((!s4 == []) = Bool.false → ∀
      (v5 : Int), v5 = (↑(List.length b) : Int) → (Decidable.decide (v5 > (20000 : Int)) = Bool.true → [] = Mk.attL b ∧ (3 : Int) = Mk.attE b) ∧ (Decidable.decide (v5 > (20000 : Int)) = Bool.false → ∀ (s5 : List UInt8), s5 = Mk.symL → List.length s5 + List.length b ≤ (9223372036854775807 : Nat) ∧ ∀ (s6 : List UInt8), s6 = s5 ++ b → s6 = Mk.attL b ∧ (0 : Int) = Mk.attE b)))) ∧ ((!t2) = Bool.false → ∀ (v4
      : Int), v4 = (↑(List.length (List.take b2 b)) : Int) → ∀ (v5 : Int), v5 = Go.IntKind.wrap Go.IntKind.i64 (v4 - (1 : Int)) → (0 : Int) ≤ v5 ∧ v5 ≤ (↑(List.length (List.take b2 b)) : Int) ∧ (0 : Int) ≤ (0 : Int) ∧ (0 : Int) ≤ v5 ∧ ∃ (x2 : Nat), List.drop (Int.toNat (0 : Int)) (List.take (Int.toNat v5) (List.take b2 b)) = List.take x2 b ∧ (x2 ≤ List.length b ∧ ∀ (i2 : Nat), x2 ≤ i2 → i2 < List.length
      b → Mk.isSym (List.getD b i2 (0 : UInt8)) = Bool.true) ∧ x2 < b2)) ∧ (Decidable.decide (v1 > (0 : Int)) = Bool.false → ∀ (s2 : List UInt8), s2 = List.take b2 b → (∃ (x2 : Nat), s2 = List.drop x2 s2 ∧ x2 ≤ List.length s2 ∧ ∀ (i2 : Nat), i2 < x2 → Mk.isSym (List.getD s2 i2 (0 : UInt8)) = Bool.true) ∧ ∀ (b3 : Nat), (b3 ≤ List.length s2 ∧ ∀ (i : Nat), i < b3 → Mk.isSym (List.getD s2 i (0 : UInt8)) =
      Bool.true) → ∀ (v3 : Int), v3 = (↑(List.length (List.drop b3 s2)) : Int) → (Decidable.decide (v3 > (0 : Int)) = Bool.true → (0 : Int) ≤ (0 : Int) ∧ (0 : Int) < (↑(List.length (List.drop b3 s2)) : Int) ∧ (0 : Int) ≤ (↑(UInt8.toNat (List.getD (List.drop b3 s2) (Int.toNat (0 : Int)) (0 : UInt8))) : Int) ∧ (↑(UInt8.toNat (List.getD (List.drop b3 s2) (Int.toNat (0 : Int)) (0 : UInt8))) : Int) < (↑(256 :
      Nat) : Int) ∧ (b1 = b1 ∧ (0 : Nat) = (0 : Nat)) ∧ Int.toNat (↑(UInt8.toNat (List.getD (List.drop b3 s2) (Int.toNat (0 : Int)) (0 : UInt8))) : Int) < (256 : Nat) ∧ ∀ (t2 : Bool), t2 = Nat.ble (Int.toNat (↑(UInt8.toNat (List.getD (List.drop b3 s2) (Int.toNat (0 : Int)) (0 : UInt8))) : Int)) (1 : Nat) → ((!t2) = Bool.true → ∀ (s3 : List UInt8), s3 = List.drop b3 s2 → ∀ (s4 : List UInt8), s4 = s3 →
      ((!s4 == []) = Bool.true → [] = Mk.attL b ∧ (6 : Int) = Mk.attE b) ∧ ((!s4 == []) = Bool.false → ∀ (v4 : Int), v4 = (↑(List.length b) : Int) → (Decidable.decide (v4 > (20000 : Int)) = Bool.true → [] = Mk.attL b ∧ (3 : Int) = Mk.attE b) ∧ (Decidable.decide (v4 > (20000 : Int)) = Bool.false → ∀ (s5 : List UInt8), s5 = Mk.symL → List.length s5 + List.length b ≤ (9223372036854775807 : Nat) ∧ ∀ (s6 :
      List UInt8), s6 = s5 ++ b → s6 = Mk.attL b ∧ (0 : Int) = Mk.attE b))) ∧ ((!t2) = Bool.false → (0 : Int) ≤ (↑(List.length (List.drop b3 s2)) : Int) ∧ (↑(List.length (List.drop b3 s2)) : Int) ≤ (↑(List.length (List.drop b3 s2)) : Int) ∧ (0 : Int) ≤ (1 : Int) ∧ (1 : Int) ≤ (↑(List.length (List.drop b3 s2)) : Int) ∧ ∃ (x3 : Nat), List.drop (Int.toNat (1 : Int)) (List.take (Int.toNat (↑(List.length
      (List.drop b3 s2)) : Int)) (List.drop b3 s2)) = List.drop x3 s2 ∧ (x3 ≤ List.length s2 ∧ ∀ (i3 : Nat), i3 < x3 → Mk.isSym (List.getD s2 i3 (0 : UInt8)) = Bool.true) ∧ List.length s2 - x3 < List.length s2 - b3)) ∧ (Decidable.decide (v3 > (0 : Int)) = Bool.false → ∀ (s3 : List UInt8), s3 = List.drop b3 s2 → ∀ (s4 : List UInt8), s4 = s3 → ((!s4 == []) = Bool.true → [] = Mk.attL b ∧ (6 : Int) = Mk.attE
      b) ∧ ((!s4 == []) = Bool.false → ∀ (v4 : Int), v4 = (↑(List.length b) : Int) → (Decidable.decide (v4 > (20000 : Int)) = Bool.true → [] = Mk.attL b ∧ (3 : Int) = Mk.attE b) ∧ (Decidable.decide (v4 > (20000 : Int)) = Bool.false → ∀ (s5 : List UInt8), s5 = Mk.symL → List.length s5 + List.length b ≤ (9223372036854775807 : Nat) ∧ ∀ (s6 : List UInt8), s6 = s5 ++ b → s6 = Mk.attL b ∧ (0 : Int) = Mk.attE
      b)))))) (by kernel_rfl) ?_
  try simp only [eq_self, true_and, and_true, Nat.le_refl, implies_true, forall_const, Bool.false_eq_true, Bool.true_eq_false, reduceCtorEq, false_imp_iff, true_imp_iff, Int.toNat_zero, Int.toNat_natCast, Nat.zero_lt_one, Int.le_refl, allGet]
  intro t1 ht1
  refine ⟨fun h s1 hs1 => att_end hlen ?_, fun h => ⟨fun _ => by decide, ⟨b.length, (List.take_of_length_le (Nat.le_refl _)).symm, Nat.le_refl _, fun i h1 h2 => by omega⟩, ?_⟩⟩
  · have hb : b = [] := by
      rw [h] at ht1
      by_cases q : (b == []) = true
      · simpa using q
      · rw [if_neg q] at ht1; cases ht1
    rw [hs1, hb]
    exact ⟨fun _ => rfl, fun _ => rfl⟩
  rintro b2 hb2 v1 h1
  refine ⟨fun q v2 h2 v3 h3 => ?_, fun q s2 hs2 => att_left hlen hb2 hs2⟩
  have q := of_decide_eq_true q
  have hlt : (List.take b2 b).length = b2 := by rw [List.length_take]; have := hb2.1; omega
  rw [hlt] at h1 h2 ⊢
  subst h1 h2
  have e3 : v3 = ((b2 - 1 : Nat) : Int) := by rw [h3, w64_id (by omega) (by have := hb2.1; omega)]; omega
  subst e3
  rw [toNat_nat, take_getD (by omega)]
  have hu := u8_lt (b.getD (b2 - 1) 0)
  refine ⟨by omega, by omega, by omega, by omega, hu, fun t2 ht2 => ⟨fun ht s2 hs2 => att_left hlen hb2 hs2, fun ht v4 h4 v5 h5 => ?_⟩⟩
  subst h4
  have e5 : v5 = ((b2 - 1 : Nat) : Int) := by rw [h5, w64_id (by omega) (by have := hb2.1; omega)]; omega
  subst e5
  rw [toNat_nat]
  refine ⟨by omega, by omega, by omega, b2 - 1, ?_, ⟨by have := hb2.1; omega, fun i hi1 hi2 => ?_⟩, by omega⟩
  · rw [List.drop_zero, List.take_take, Nat.min_eq_left (by omega)]
  · by_cases e : i = b2 - 1
    · subst e
      rw [← isSym_ble, ← ht2]
      simpa using ht
    · exact hb2.2 i (by omega) hi2
def EL : Env := (E0.addP 29 syms).addP 34 listP
theorem EL_ok : EnvOk Tryd.prog EL := (E0_ok.addP symsR_ok).addP list_ok
theorem attachR_ok : PcOk Tryd.prog 15 attach := by
  refine pcOf_run (fun _ => EL_ok) Tryd.func15 rfl (by kernel_rfl) (fun x => ⟨by have := attL_len x.1; show (attL x.1).length ≤ _; omega, trivial, trivial⟩)
    (fun x => []) (fun _ => Nat.le_of_ble_eq_true rfl) (fun ⟨b, ()⟩ hp hw => ?_)
  have hlen : b.length ≤ 9223372036854775807 := hw (.str b) (List.mem_cons_self ..)
  refine vc_of (q :=
      ∀ (t1 : Bool), t1 = Mk.listB b → ((!t1) = Bool.true → [] = Mk.attL b ∧ (6 : Int) = Mk.attE b) ∧ ((!t1) = Bool.false → ∀ (v1 : Int), v1 = (↑(List.length b) : Int) → (Decidable.decide (v1 > (20000 : Int)) = Bool.true → [] = Mk.attL b ∧ (3 : Int) = Mk.attE b) ∧ (Decidable.decide (v1 > (20000 : Int)) = Bool.false → ∀ (s1 : List UInt8), s1 = Mk.symL → List.length s1 + List.length b ≤
      (9223372036854775807 : Nat) ∧ ∀ (s2 : List UInt8), s2 = s1 ++ b → s2 = Mk.attL b ∧ (0 : Int) = Mk.attE b))) (by kernel_rfl) ?_
  try simp only [eq_self, true_and, and_true, Nat.le_refl, implies_true, forall_const, Bool.false_eq_true, Bool.true_eq_false, reduceCtorEq, false_imp_iff, true_imp_iff, Int.toNat_zero, Int.toNat_natCast, Nat.zero_lt_one, Int.le_refl, allGet]
  intro t1 ht1
  refine ⟨fun h => ?_, fun h v1 h1 => ?_⟩
  · have hb : ¬ listB b = true := by rw [← ht1]; simpa using h
    exact ⟨by rw [attL, if_neg (fun q => hb q.1)], by rw [attE, if_neg hb]⟩
  · have hb : listB b = true := by rw [← ht1]; simpa using h
    subst h1
    refine ⟨fun q => ?_, fun q s2 h2 => ?_⟩
    · have q := of_decide_eq_true q
      exact ⟨by rw [attL, if_neg (by omega)], by rw [attE, if_pos hb, if_neg (by omega)]⟩
    · have q := of_decide_eq_false q
      have hl := symL_len
      subst h2
      exact ⟨by omega, fun s3 h3 => ⟨by rw [h3, attL, if_pos ⟨hb, by omega⟩], by rw [attE, if_pos hb, if_pos (by omega)]⟩⟩
/-! ### soft values -/
def softF (l : List UInt8) (k : Nat) : Int := 14 * ((l.getD k 0).toNat : Int) - 7
def soften := ecC aStr (fun x => [listB x.1 = true, x.1.length ≤ 40000, 0 < x.1.length]) (fun x (y : Nat × Nat × Nat) => x.1.length ≤ y.2.2) (fun x y => .tup [.slice 0 y.1 y.2.1 [] 1 0 x.1.length y.2.2 false, .int .i64 0]) (fun x y => [⟨0, y.1, y.2.1, 1, x.1.length, fun k => .int .i64 (softF x.1 k), true, false, y.2.2, 3, false, none⟩]) 1
theorem soften_ok : EcOk Tryd.prog 44 soften := by
  refine ecC_run (fun _ => EL_ok) Tryd.func44 rfl (by kernel_rfl) []
    (fun x => [.loop ⟨5, Nat × Nat × Nat × Nat, [4, 5], fun y => [.slice 500 y.2.1 y.2.2.1 [] 1 0 y.1 y.2.2.2 (Nat.beq y.1 0), .int .i64 (y.1 : Nat)], [], fun y => [⟨500, y.2.1, y.2.2.1, 1, y.1, fun k => .int .i64 (softF x.1 k), true, false, y.2.2.2, 3, Nat.beq y.1 0, none⟩], fun y => y.1 ≤ x.1.length ∧ y.1 ≤ y.2.2.2, fun y => x.1.length - y.1⟩]) (fun _ => Nat.le_of_ble_eq_true rfl) (fun ⟨b, ()⟩ hp hw => ?_)
  refine vc_of (q :=
      ∀ (t1 : Bool), t1 = Mk.listB b → ((!t1) = Bool.true → ∃ (x1 : Nat × Nat × Nat), (Eng.SVeq (Eng.SV.slice (999999 : Nat) (0 : Nat) (0 : Nat) [] (0 : Nat) (0 : Nat) (0 : Nat) (0 : Nat) Bool.true) (Eng.SV.slice (0 : Nat) (Prod.fst x1) (Prod.fst (Prod.snd x1)) [] (1 : Nat) (0 : Nat) (List.length b) (Prod.snd (Prod.snd x1)) Bool.false) ∧ (6 : Int) = (0 : Int)) ∧ (Bool.false = Bool.true ∧ List.length b =
      (0 : Nat) ∧ Prod.snd (Prod.snd x1) = (0 : Nat)) ∧ Nat.le (List.length b) (Prod.snd (Prod.snd x1))) ∧ ((!t1) = Bool.false → (∃ (x2 : Nat × Nat × Nat × Nat), Eng.SVeq (Eng.SV.slice (999999 : Nat) (0 : Nat) (0 : Nat) [] (0 : Nat) (0 : Nat) (0 : Nat) (0 : Nat) Bool.true) (Eng.SV.slice (500 : Nat) (Prod.fst (Prod.snd x2)) (Prod.fst (Prod.snd (Prod.snd x2))) [] (1 : Nat) (0 : Nat) (Prod.fst x2) (Prod.snd
      (Prod.snd (Prod.snd x2))) (Nat.beq (Prod.fst x2) (0 : Nat))) ∧ (0 : Int) = (↑(Prod.fst x2) : Int) ∧ (Nat.beq (Prod.fst x2) (0 : Nat) = Bool.true ∧ Prod.fst x2 = (0 : Nat) ∧ Prod.snd (Prod.snd (Prod.snd x2)) = (0 : Nat)) ∧ Prod.fst x2 ≤ List.length b ∧ Prod.fst x2 ≤ Prod.snd (Prod.snd (Prod.snd x2))) ∧ ∀ (x3 : Nat × Nat × Nat × Nat), Prod.fst x3 ≤ List.length b ∧ Prod.fst x3 ≤ Prod.snd (Prod.snd
      (Prod.snd x3)) → ∀ (v1 : Int), v1 = (↑(List.length b) : Int) → (Decidable.decide ((↑(Prod.fst x3) : Int) < v1) = Bool.true → (0 : Int) ≤ (↑(Prod.fst x3) : Int) ∧ (↑(Prod.fst x3) : Int) < (↑(List.length b) : Int) ∧ ∀ (v2 : Int), v2 = Go.IntKind.wrap Go.IntKind.i64 (↑(UInt8.toNat (List.getD b (Int.toNat (↑(Prod.fst x3) : Int)) (0 : UInt8))) : Int) → ∀ (v3 : Int), v3 = Go.IntKind.wrap Go.IntKind.i64
      ((14 : Int) * v2) → ∀ (v4 : Int), v4 = Go.IntKind.wrap Go.IntKind.i64 (v3 - (7 : Int)) → ∀ (b1 : Nat), (Prod.fst (Prod.snd x3) = Prod.fst (Prod.snd x3) ∧ Prod.fst (Prod.snd (Prod.snd x3)) = Prod.fst (Prod.snd (Prod.snd x3))) ∧ (Nat.beq (Prod.fst x3) (0 : Nat) = Bool.true → Nat.beq (Prod.fst x3) (0 : Nat) = Bool.true) ∧ (0 : Nat) = (0 : Nat) ∧ Prod.fst x3 ≤ Prod.fst x3 ∧ Prod.snd (Prod.snd (Prod.snd
      x3)) ≤ Prod.snd (Prod.snd (Prod.snd x3)) ∧ (Prod.fst x3 + (1 : Nat)) * (8 : Nat) ≤ (140737488355328 : Nat) ∧ Prod.fst x3 + (1 : Nat) ≤ (9223372036854775807 : Nat) ∧ (1 : Nat) ≤ (1 : Nat) ∧ (b1 = b1 ∧ (0 : Nat) = (0 : Nat)) ∧ ∀ (b2 b3 b4 : Nat), Prod.fst x3 + (1 : Nat) ≤ b4 → b4 ≤ (9223372036854775807 : Nat) → (Nat.beq (Prod.fst x3) (0 : Nat) = Bool.true → (1 : Nat) = (0 : Nat) → b4 = (0 : Nat)) → ∀
      (v5 : Int), v5 = Go.IntKind.wrap Go.IntKind.i64 ((↑(Prod.fst x3) : Int) + (1 : Int)) → ∃ (x4 : Nat × Nat × Nat × Nat), (b2 = Prod.fst (Prod.snd x4) ∧ b3 = Prod.fst (Prod.snd (Prod.snd x4)) ∧ (0 : Nat) = (0 : Nat) ∧ Prod.fst x3 + (1 : Nat) = Prod.fst x4 ∧ b4 = Prod.snd (Prod.snd (Prod.snd x4)) ∧ (Nat.beq (Prod.fst x3) (0 : Nat) && Decidable.decide ((1 : Nat) = (0 : Nat))) = Nat.beq (Prod.fst x4) (0
      : Nat)) ∧ v5 = (↑(Prod.fst x4) : Int) ∧ ((b2 = Prod.fst (Prod.snd x4) ∧ b3 = Prod.fst (Prod.snd (Prod.snd x4)) ∧ (Nat.beq (Prod.fst x3) (0 : Nat) && Decidable.decide ((1 : Nat) = (0 : Nat))) = Nat.beq (Prod.fst x4) (0 : Nat) ∧ Prod.fst x4 ≤ Prod.fst x3 + (1 : Nat) ∧ Prod.fst x4 ≤ Prod.snd (Prod.snd (Prod.snd x4)) ∧ Prod.snd (Prod.snd (Prod.snd x4)) ≤ b4) ∧ ∀ (i1 : Nat), i1 < Prod.fst x4 → (if i1 <
      Prod.fst x3 then Mk.softF b i1 else v4) = Mk.softF b i1) ∧ (Prod.fst x4 ≤ List.length b ∧ Prod.fst x4 ≤ Prod.snd (Prod.snd (Prod.snd x4))) ∧ List.length b - Prod.fst x4 < List.length b - Prod.fst x3) ∧ (Decidable.decide ((↑(Prod.fst x3) : Int) < v1) = Bool.false → ∃ (x4 : Nat × Nat × Nat), ((Prod.fst (Prod.snd x3) = Prod.fst x4 ∧ Prod.fst (Prod.snd (Prod.snd x3)) = Prod.fst (Prod.snd x4) ∧ (0 :
      Nat) = (0 : Nat) ∧ Prod.fst x3 = List.length b ∧ Prod.snd (Prod.snd (Prod.snd x3)) = Prod.snd (Prod.snd x4) ∧ Nat.beq (Prod.fst x3) (0 : Nat) = Bool.false) ∧ (0 : Int) = (0 : Int)) ∧ ((Prod.fst (Prod.snd x3) = Prod.fst x4 ∧ Prod.fst (Prod.snd (Prod.snd x3)) = Prod.fst (Prod.snd x4) ∧ Nat.beq (Prod.fst x3) (0 : Nat) = Bool.false ∧ List.length b ≤ Prod.fst x3 ∧ List.length b ≤ Prod.snd (Prod.snd x4)
      ∧ Prod.snd (Prod.snd x4) ≤ Prod.snd (Prod.snd (Prod.snd x3))) ∧ ∀ (i1 : Nat), i1 < List.length b → Mk.softF b i1 = Mk.softF b i1) ∧ Nat.le (List.length b) (Prod.snd (Prod.snd x4))))) (by kernel_rfl) ?_
  try simp only [eq_self, true_and, and_true, Nat.le_refl, implies_true, forall_const, Bool.false_eq_true, Bool.true_eq_false, reduceCtorEq, false_imp_iff, true_imp_iff, Int.toNat_zero, Int.toNat_natCast, Nat.zero_lt_one, Int.le_refl, allGet]
  obtain ⟨p1, p2, p3, _⟩ := hp
  dsimp only at p1 p2 p3
  intro t1 ht1
  refine ⟨fun h => (by rw [ht1, p1] at h; cases h), fun h => ⟨⟨(0, 0, 0, 0), nil_eqv rfl rfl rfl, rfl, ⟨rfl, rfl, rfl⟩, Nat.zero_le _, Nat.zero_le _⟩, ?_⟩⟩
  rintro ⟨i, bb, o, c⟩ ⟨hi, hc⟩ v1 h1
  dsimp only at hi hc ⊢
  subst h1
  refine ⟨fun hlt => ?_, fun hge => ?_⟩
  · have hlt := of_decide_eq_true hlt
    have hu := u8_lt (b.getD i 0)
    refine ⟨by omega, by omega, fun v2 h2 v3 h3 v4 h4 => ⟨fun h => h, by omega, by omega, fun b2 b3 b4 h4' _ v5 h5 => ?_⟩⟩
    have e2 : v2 = ((b.getD i 0).toNat : Int) := by rw [h2, w64_id (by omega) (by omega)]
    have e3 : v3 = 14 * ((b.getD i 0).toNat : Int) := by rw [h3, e2, w64_id (by omega) (by omega)]
    have e4 : v4 = softF b i := by rw [h4, e3, w64_id (by omega) (by omega)]; rfl
    exact app_leaf (J := fun i => (i : Int)) (by omega) e4 h4' (h5.trans (l_succ (by omega)))
  · have hge := of_decide_eq_false hge
    obtain rfl : i = b.length := by omega
    have hz : Nat.beq b.length 0 = false := by cases hb : b.length with | zero => omega | succ n => rfl
    exact ⟨(bb, o, c), ⟨rfl, rfl, rfl, rfl, hz⟩, ⟨rfl, rfl, hz, Nat.le_refl _, hc, Nat.le_refl _⟩, hc⟩
/-! ### a bit of a string -/
def bitF (l : List UInt8) (i : Nat) : Int := ((l.getD (i / 8) 0).toNat / 2 ^ (7 - i % 8) % 2 : Nat)
abbrev aBit : ArgL (List UInt8 × Int × Unit) := .cons (.elt .str) (.cons (.elt (.int .i64)) .nil)
def bitC := pcOf aBit (fun x => [0 ≤ x.2.1, x.2.1 < 8 * x.1.length, x.1.length ≤ 65536]) (fun x => .int .i64 (bitF x.1 x.2.1.toNat))
theorem bit_ok : PcOk Tryd.prog 31 bitC := by
  refine pcOf_run (fun _ => E0_ok) Tryd.func31 rfl (by kernel_rfl) (fun x => trivial)
    (fun x => []) (fun _ => Nat.le_of_ble_eq_true rfl) (fun ⟨l, i, ()⟩ hp hw => ?_)
  refine vc_of (q :=
      (8 : Int) ≠ (0 : Int) ∧ ∀ (v1 : Int), v1 = Go.IntKind.wrap Go.IntKind.i64 (Int.tdiv i (8 : Int)) → (0 : Int) ≤ v1 ∧ v1 < (↑(List.length l) : Int) ∧ ∀ (v2 : Int), v2 = Go.IntKind.wrap Go.IntKind.i64 (↑(UInt8.toNat (List.getD l (Int.toNat v1) (0 : UInt8))) : Int) → (8 : Int) ≠ (0 : Int) ∧ ∀ (v3 : Int), v3 = Int.tmod i (8 : Int) → ∀ (v4 : Int), v4 = Go.IntKind.wrap Go.IntKind.i64 ((7 : Int) - v3) → ∀
      (v5 : Int), v5 = Go.IntKind.wrap Go.IntKind.u64 v4 → (0 : Int) ≤ v5 ∧ ∀ (v6 : Int), v6 = Int.fdiv v2 ((2 : Int) ^ Min.min (Int.toNat v5) (Go.IntKind.bits Go.IntKind.i64)) → (2 : Int) ≠ (0 : Int) ∧ ∀ (v7 : Int), v7 = Int.tmod v6 (2 : Int) → v7 = Mk.bitF l (Int.toNat i)) (by kernel_rfl) ?_
  try simp only [eq_self, true_and, and_true, Nat.le_refl, implies_true, forall_const, Bool.false_eq_true, Bool.true_eq_false, reduceCtorEq, false_imp_iff, true_imp_iff, Int.toNat_zero, Int.toNat_natCast, Nat.zero_lt_one, Int.le_refl, allGet]
  obtain ⟨h0, h1, hp8, _⟩ := hp
  dsimp only at h0 h1 hp8
  obtain ⟨k, rfl⟩ : ∃ k : Nat, i = k := ⟨i.toNat, by omega⟩
  have hl : l.length ≤ 9223372036854775807 := hw (.str l) (List.mem_cons_self ..)
  have hu := u8_lt (l.getD (k / 8) 0)
  have w1 : ∀ v1 : Int, v1 = IntKind.i64.wrap ((k : Int).tdiv 8) → 8 * l.length ≤ 9223372036854775807 → v1 = ((k / 8 : Nat) : Int) := fun v1 h h' => by
    rw [h, Int.tdiv_eq_ediv_of_nonneg (by omega), w64_id (by omega) (by omega)]; omega
  refine ⟨by decide, fun v1 h1' => ?_⟩
  have e1 := w1 v1 h1' (by omega)
  subst e1
  rw [toNat_nat, toNat_nat]
  refine ⟨by omega, by omega, fun v2 h2 => ⟨by decide, fun v3 h3 v4 h4 v5 h5 => ?_⟩⟩
  have e2 : v2 = ((l.getD (k / 8) 0).toNat : Int) := by rw [h2, w64_id (by omega) (by omega)]
  have e3 : v3 = ((k % 8 : Nat) : Int) := by rw [h3, Int.tmod_eq_emod_of_nonneg (by omega)]; omega
  have e4 : v4 = ((7 - k % 8 : Nat) : Int) := by rw [h4, e3, w64_id (by omega) (by omega)]; omega
  have e5 : v5 = ((7 - k % 8 : Nat) : Int) := by rw [h5, e4, IntKind.wrap_u64]; omega
  subst e2 e5
  refine ⟨by omega, fun v6 h6 => ⟨by decide, fun v7 h7 => ?_⟩⟩
  rw [toNat_nat, show min (7 - k % 8) IntKind.i64.bits = 7 - k % 8 from Nat.min_eq_left (by show 7 - k % 8 ≤ 64; omega), Int.fdiv_eq_ediv_of_nonneg _ (by exact_mod_cast Nat.zero_le _)] at h6
  have e6 : v6 = (((l.getD (k / 8) 0).toNat / 2 ^ (7 - k % 8) : Nat) : Int) := by rw [h6]; exact_mod_cast rfl
  rw [bitF]
  generalize (l.getD (k / 8) 0).toNat / 2 ^ (7 - k % 8) = q at e6 ⊢
  rw [h7, e6, Int.tmod_eq_emod_of_nonneg (by omega)]
  exact_mod_cast rfl
end Mk
