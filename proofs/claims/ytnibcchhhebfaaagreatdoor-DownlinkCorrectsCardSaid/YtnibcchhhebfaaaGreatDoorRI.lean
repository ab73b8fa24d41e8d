/-
  OWN WORK. DownlinkCorrects: the walk.
-/
import Derived.Test.YtnibcchhhebfaaaGreatDoorRF
namespace Vt
open Go Go.Proofs Eng
set_option linter.unusedVariables false
set_option linter.unusedSimpArgs false
set_option maxHeartbeats 8000000
set_option maxRecDepth 100000
/-! ### filled -/
def filS (s : List UInt8) (n : Nat) : List UInt8 := if n < s.length then s.take n else s ++ Byt.of (fun _ => 0) (n - s.length)
theorem filS_len (s : List UInt8) (n : Nat) : (filS s n).length = n := by
  unfold filS
  split
  · rw [List.length_take]; omega
  · rw [List.length_append, bofl_len]; omega
def filC := pcOf aSI (fun x => [0 ≤ x.2.1, x.2.1 ≤ 100000]) (fun x => .str (filS x.1 (min x.2.1.toNat 100000)))
theorem fil_ok : PcOk Tryz.prog 22 filC := by
  refine pcOf_runS (fun _ => E0_ok) Tryz.func22 rfl (by kernel_rfl) (fun x hw => (by
      have h0 : x.1.length ≤ 9223372036854775807 := hw _ (List.mem_cons_self ..)
      show (filS x.1 (min x.2.1.toNat 100000)).length ≤ 9223372036854775807
      rw [filS_len]
      omega))
    (fun x => []) (fun _ => Nat.le_of_ble_eq_true rfl) (fun ⟨s, n, u⟩ hp hw => ?_)
  obtain ⟨h1, h2, _⟩ := hp
  dsimp only at h1 h2
  refine vc_of (q :=
      ∀ (v1:Int), v1=(↑(List.length s):Int)→(decide (v1 > n)=true→(0:Int)≤n∧n≤(↑(List.length s):Int)∧(0:Int)≤(0:Int)∧(0:Int)≤n∧List.drop (Int.toNat (0:Int)) (List.take (Int.toNat n) s)=Vt.filS s (Min.min (Int.toNat n) 100000))∧(decide (v1 > n)=false→∀ (v2:Int), v2=(↑(List.length s):Int)→∀ (v3:Int), v3=IntKind.i64.wrap (n - v2)→0≤v3∧v3≤v3∧v3*(↑(1:Nat):Int)≤(140737488355328:Int)∧v3≤9223372036854775807∧∀
      (b1:Nat), Int.toNat v3≤Int.toNat v3∧(∀ (k1:Nat), k1 < Int.toNat v3→true=true)∧(b1=b1∧0=0)∧∀ (s1:List UInt8), s1=Byt.of (fun (k:Nat) ↦ (0:Int)) (Int.toNat v3)→List.length s+List.length s1≤9223372036854775807∧∀ (s2:List UInt8), s2=s++s1→s2=Vt.filS s (Min.min (Int.toNat n) 100000))) (by kernel_rfl) ?_
  try simp only [eq_self, true_and, and_true, Nat.le_refl, implies_true, forall_const, Bool.false_eq_true, Bool.true_eq_false, reduceCtorEq, false_imp_iff, true_imp_iff, Int.toNat_zero, Int.toNat_natCast, Nat.zero_lt_one, Int.le_refl, allGet]
  have hm : min n.toNat 100000 = n.toNat := by omega
  rw [hm]
  have hs : s.length ≤ 9223372036854775807 := hw _ (List.mem_cons_self ..)
  intro v1 e1
  refine ⟨fun q => ?_, fun q v2 e2 v3 e3 => ?_⟩
  · have q := of_decide_eq_true q
    exact ⟨h1, by omega, h1, by unfold filS; rw [if_pos (by omega)]; rfl⟩
  · have q := of_decide_eq_false q
    rw [e2, w64_id (by omega) (by omega)] at e3
    refine ⟨by omega, by omega, by omega, fun s1 f1 => ⟨by rw [f1, bofl_len]; omega, fun s2 f2 => ?_⟩⟩
    unfold filS
    rw [f2, f1, if_neg (by omega), show v3.toNat = n.toNat - s.length by omega]
/-! ### New -/
abbrev NwY := Nat × Nat × Nat × Nat × Nat
def newC := ecC aII (fun x => [posB x.1 x.2.1 = true]) (fun _ (_ : NwY) => True) (fun _ y => .tup [.ptr 5 y.1 0 [.elt 0 6], .int .i64 0])
  (fun x y => [⟨5, y.1, 0, 6, 1, fun _ => .agg [.ptr 1 y.2.1 0 [.elt 0 8], .agg [.fn (.func 53) [] [.ptr 3 y.2.2.2.2 0 [.elt 0 1]], .fn (.func 55) [] [], .fn (.func 56) [] [], .fn (.func 57) [] [.ptr 2 y.2.2.2.1 0 [.elt 0 1], .ptr 3 y.2.2.2.2 0 [.elt 0 1]], .fn (.func 59) [] [.ptr 3 y.2.2.2.2 0 [.elt 0 1]]]], true, true, 1, 69, false, none⟩,
    ⟨1, y.2.1, 0, 8, 1, fun _ => .agg [.ptr 0 y.2.2.1 0 [.elt 0 2], .int .i64 (16 * (x.1 + 8 * x.2.1) + 12), nilSlice, .int .i64 0, .bool false, .int .i64 0, .int .i64 0, .val .nilFunc], true, true, 1, 108, false, none⟩,
    ⟨0, y.2.2.1, 0, 2, 1, fun _ => .agg [.int .i64 0, .bool false], true, true, 1, 105, false, none⟩,
    ⟨2, y.2.2.2.1, 0, 1, 1, fun _ => .int .i64 x.1, true, true, 1, 3, false, none⟩,
    ⟨3, y.2.2.2.2, 0, 1, 1, fun _ => .int .i64 x.2.1, true, true, 1, 3, false, none⟩]) 6
def ENW : Env := ((((E0.addP 30 possC).addP 32 symsC).inl 33 Tryz.f33 fun _ _ => []).inl 37 Tryz.f37 fun _ _ => []).inl 35 Tryz.f35 fun _ _ => rds 3
theorem ENW_ok : EnvOk Tryz.prog ENW := ((((E0_ok.addP poss_ok).addP syms_ok).inl _ Tryz.func33 rfl (by kernel_rfl)).inl _ Tryz.func37 rfl (by kernel_rfl)).inl _ Tryz.func35 rfl (by kernel_rfl)
theorem new_ok : EcOk Tryz.prog 15 newC := by
  refine ecC_run (fun _ => ENW_ok) Tryz.func15 rfl (by kernel_rfl) []
    (fun x => []) (fun _ => Nat.le_of_ble_eq_true rfl) (fun ⟨n, d, u⟩ hp hw => ?_)
  obtain ⟨h1, _⟩ := hp
  dsimp only at h1
  obtain ⟨a1, a2, a3, a4⟩ := posB_iff.1 h1
  refine vc_of (q :=
      ∀ (t1:Bool), t1=Vt.posB n d→((!t1)=true→∃ (x1:Nat × Nat × Nat × Nat × Nat), (SVeq (SV.val (Go.Value.pointer Option.none)) (SV.ptr 5 x1.1 0 [PS.elt 0 6])∧(2:Int)=(0:Int))∧(false=true∧1=0∧1=0)∧(false=true∧1=0∧1=0)∧(false=true∧1=0∧1=0)∧(false=true∧1=0∧1=0)∧(false=true∧1=0∧1=0)∧True)∧((!t1)=false→∀ (v1:Int), v1=IntKind.i64.wrap ((8:Int)*d)→∀ (v2:Int), v2=IntKind.i64.wrap (n+v1)→∀ (v3:Int), v3=v2→∀
      (v4:Int), (v4=if v3 < 0∨v3 > 1100 then (0:Int) else (16:Int)*v3+(12:Int))→∀ (t2:Bool), (t2=if decide (v4 < (1:Int))=true then true else decide (v4 > (20000:Int)))→(t2=true→∀ (v5:Int), v5=2→((v5 != (0:Int))=true→∃ (x2:Nat × Nat × Nat × Nat × Nat), (SVeq (SV.val (Go.Value.pointer Option.none)) (SV.ptr 5 x2.1 0 [PS.elt 0
      6])∧v5=0)∧(false=true∧1=0∧1=0)∧(false=true∧1=0∧1=0)∧(false=true∧1=0∧1=0)∧(false=true∧1=0∧1=0)∧(false=true∧1=0∧1=0)∧True)∧((v5 != (0:Int))=false→∀ (b1 b2 b3:Nat), (b3=b3∧0=0)∧(b3=b3∧0=0)∧∀ (b4:Nat), ∃ (x3:Nat × Nat × Nat × Nat × Nat), ((0=0∧b4=x3.1∧0=0)∧(0:Int)=(0:Int))∧False))∧(t2=false→∀ (b1 b2:Nat) (v6:Int), v6=0→((v6 != (0:Int))=true→∃ (x2:Nat × Nat × Nat × Nat × Nat), (SVeq (SV.val
      (Go.Value.pointer Option.none)) (SV.ptr 5 x2.1 0 [PS.elt 0 6])∧v6=0)∧(false=true∧1=0∧1=0)∧((b2=x2.2.1∧0=0∧false=false∧1≤1∧1≤1∧1≤1)∧(0=0∧b1=x2.2.2.1∧0=0)∧v4=16*(n+(8:Int)*d)+(12:Int)∧(0=0∧0=0∧0=0∧0=0∧0=0∧true=true)∧(0:Int)=(0:Int)∧false=false∧(0:Int)=(0:Int)∧(0:Int)=(0:Int)∧SVeq (SV.val Go.Value.nilFunc) (SV.val
      Go.Value.nilFunc))∧((b1=x2.2.2.1∧0=0∧false=false∧1≤1∧1≤1∧1≤1)∧(0:Int)=(0:Int)∧false=false)∧(false=true∧1=0∧1=0)∧(false=true∧1=0∧1=0)∧True)∧((v6 != (0:Int))=false→∀ (b3 b4 b5:Nat), (b5=b5∧0=0)∧(b5=b5∧0=0)∧∀ (b6:Nat), ∃ (x3:Nat × Nat × Nat × Nat × Nat), ((0=0∧b6=x3.1∧0=0)∧(0:Int)=(0:Int))∧((b6=x3.1∧0=0∧false=false∧1≤1∧1≤1∧1≤1)∧(0=0∧b2=x3.2.1∧0=0)∧SVeq (SV.fn (Go.Fn.func 53) [] [SV.ptr 3 b4 0 [PS.elt
      0 1]]) (SV.fn (Go.Fn.func (53:Go.FuncId)) [] [SV.ptr 3 (x3.2.2.2.2) 0 [PS.elt 0 1]])∧SVeq (SV.fn (Go.Fn.func 55) [] []) (SV.fn (Go.Fn.func (55:Go.FuncId)) [] [])∧SVeq (SV.fn (Go.Fn.func 56) [] []) (SV.fn (Go.Fn.func (56:Go.FuncId)) [] [])∧SVeq (SV.fn (Go.Fn.func 57) [] [SV.ptr 2 b3 0 [PS.elt 0 1], SV.ptr 3 b4 0 [PS.elt 0 1]]) (SV.fn (Go.Fn.func (57:Go.FuncId)) [] [SV.ptr 2 (x3.2.2.2.1) 0 [PS.elt 0
      1], SV.ptr 3 (x3.2.2.2.2) 0 [PS.elt 0 1]])∧SVeq (SV.fn (Go.Fn.func 59) [] [SV.ptr 3 b4 0 [PS.elt 0 1]]) (SV.fn (Go.Fn.func (59:Go.FuncId)) [] [SV.ptr 3 (x3.2.2.2.2) 0 [PS.elt 0 1]]))∧((b2=x3.2.1∧0=0∧false=false∧1≤1∧1≤1∧1≤1)∧(0=0∧b1=x3.2.2.1∧0=0)∧v4=16*(n+(8:Int)*d)+(12:Int)∧(0=0∧0=0∧0=0∧0=0∧0=0∧true=true)∧(0:Int)=(0:Int)∧false=false∧(0:Int)=(0:Int)∧(0:Int)=(0:Int)∧SVeq (SV.val Go.Value.nilFunc)
      (SV.val Go.Value.nilFunc))∧((b1=x3.2.2.1∧0=0∧false=false∧1≤1∧1≤1∧1≤1)∧(0:Int)=(0:Int)∧false=false)∧((b3=x3.2.2.2.1∧0=0∧false=false∧1≤1∧1≤1∧1≤1)∧n=n)∧((b4=x3.2.2.2.2∧0=0∧false=false∧1≤1∧1≤1∧1≤1)∧d=d)∧True)))) (by kernel_rfl) ?_
  try simp only [eq_self, true_and, and_true, Nat.le_refl, implies_true, forall_const, Bool.false_eq_true, Bool.true_eq_false, reduceCtorEq, false_imp_iff, true_imp_iff, Int.toNat_zero, Int.toNat_natCast, Nat.zero_lt_one, Int.le_refl, allGet]
  intro t1 f1
  refine ⟨fun q => (by rw [f1, h1] at q; cases q), fun _ v1 e1 v2 e2 v3 e3 v4 e4 t2 f2 => ?_⟩
  rw [w64_id (by omega) (by omega)] at e1
  rw [e1, w64_id (by omega) (by omega)] at e2
  rw [e3, e2, if_neg (by omega)] at e4
  have q2 : t2 = false := by rw [f2, decide_eq_false (by omega), decide_eq_false (by omega)]; rfl
  exact ⟨fun q => (by rw [q2] at q; cases q), fun _ b1 b2 v6 e6 => ⟨fun q => (by rw [e6] at q; exact absurd q (by decide)), fun _ b3 b4 b6 => ⟨(b6, b2, b1, b3, b4), rfl, ⟨rfl, rfl, SVeq.of_eq rfl, SVeq.of_eq rfl, SVeq.of_eq rfl, SVeq.of_eq rfl, SVeq.of_eq rfl⟩, ⟨rfl, rfl, e4, SVeq.of_eq rfl⟩, rfl, rfl, rfl⟩⟩⟩
end Vt
namespace Vt
open Go Go.Proofs Eng
open Mk (attL symL symF symL_len wrA wr isW softF listB_of isSym)
set_option linter.unusedVariables false
set_option linter.unusedSimpArgs false
set_option maxRecDepth 100000
set_option maxHeartbeats 2000000
def sF (s : List UInt8) (j : Nat) : Int := ((s.getD j 0).toNat : Nat)
/-- In how many of n places from a on g is not s. -/
def dcn (s : List UInt8) (g : Nat → Int) (a : Nat) : Nat → Nat
  | 0 => 0
  | n + 1 => dcn s g a n + (if g (a + n) = sF s (a + n) then 0 else 1)
theorem dcn_le (s : List UInt8) (g : Nat → Int) (a : Nat) : ∀ n, dcn s g a n ≤ n
  | 0 => Nat.le_refl _
  | n + 1 => by
    have := dcn_le s g a n
    simp only [dcn]
    split <;> omega
theorem dcn_self {s : List UInt8} {g : Nat → Int} {a : Nat} : ∀ {n : Nat}, (∀ j, j < n → g (a + j) = sF s (a + j)) → dcn s g a n = 0
  | 0, _ => rfl
  | n + 1, q => by
    simp only [dcn]
    rw [dcn_self fun j hj => q j (by omega), if_pos (q n (by omega))]
/-- One place is changed. -/
theorem dcn_upd {s : List UInt8} {g : Nat → Int} {a p : Nat} {v : Int} : ∀ {n : Nat}, dcn s (fun j => if j = p then v else g j) a n ≤ dcn s g a n + 1 ∧ (p < a ∨ a + n ≤ p → dcn s (fun j => if j = p then v else g j) a n = dcn s g a n)
  | 0 => ⟨Nat.zero_le _, fun _ => rfl⟩
  | n + 1 => by
    have ih := dcn_upd (s := s) (g := g) (a := a) (p := p) (v := v) (n := n)
    simp only [dcn]
    refine ⟨?_, fun q => ?_⟩
    · by_cases e : a + n = p
      · rw [ih.2 (.inr (by omega))]
        split <;> split <;> omega
      · simp only [if_neg e]
        have := ih.1
        omega
    · simp only [if_neg (show ¬ a + n = p by omega)]
      rw [ih.2 (by omega)]
/-- What k changes have made of s. -/
def FlI (s : List UInt8) (k : Nat) (g : Nat → Int) : Prop := (∀ j, j < s.length → g j = sF s j ∨ g j = 1 - sF s j) ∧ dcn s g 0 32 ≤ min k 2 ∧ dcn s g 32 (s.length - 32) ≤ k - 2
theorem FlI_zero {s : List UInt8} : FlI s 0 (sF s) := ⟨fun j _ => .inl rfl, Nat.le_of_eq (dcn_self fun _ _ => rfl), Nat.le_of_eq (dcn_self fun _ _ => rfl)⟩
theorem FlI_step {s : List UInt8} {k p : Nat} {g : Nat → Int} (h : FlI s k g) (hl : 32 ≤ s.length) (h1 : k < 2 → p < 32) (h2 : 2 ≤ k → 32 ≤ p ∧ p < s.length) : FlI s (k + 1) (fun j => if j = p then 1 - g p else g j) := by
  obtain ⟨a1, a2, a3⟩ := h
  have u1 := dcn_upd (s := s) (g := g) (a := 0) (p := p) (v := 1 - g p) (n := 32)
  have u2 := dcn_upd (s := s) (g := g) (a := 32) (p := p) (v := 1 - g p) (n := s.length - 32)
  refine ⟨fun j hj => ?_, ?_, ?_⟩
  · dsimp only
    by_cases e : j = p
    · rw [if_pos e, ← e]
      rcases a1 j hj with q | q <;> rw [q]
      · exact .inr rfl
      · left; omega
    · rw [if_neg e]; exact a1 j hj
  · by_cases q : k < 2
    · have := u1.1; omega
    · rw [u1.2 (.inr (by have := h2 (by omega); omega))]; omega
  · by_cases q : k < 2
    · rw [u2.2 (.inl (h1 q))]; omega
    · have := u2.1; omega
/-! ### symbols, as soft values -/
theorem att_enc_eq (m : List UInt8) : attL (encS m) = symL ++ encS m := if_pos ⟨encS_list m, encS_le m⟩
theorem att_lo {m : List UInt8} {k : Nat} (hk : k < 32) : sF (attL (encS m)) k = symF k := by
  unfold sF
  rw [att_enc_eq, List.getD_eq_getElem?_getD, List.getElem?_append_left (by rw [symL_len]; exact hk), ← List.getD_eq_getElem?_getD]
  refine Mk.bytof_getD hk ?_ ?_ <;> unfold symF <;> omega
theorem att_hi {m : List UInt8} (hm : m.length ≤ 1100) {k : Nat} (hk : k < 16 * m.length + 12) : sF (attL (encS m)) (32 + k) = (sym (bitsOf m) k : Nat) := by
  unfold sF
  rw [att_enc_eq, List.getD_eq_getElem?_getD, List.getElem?_append_right (by rw [symL_len]; omega), symL_len, Nat.add_sub_cancel_left, ← List.getD_eq_getElem?_getD, encS_get hm hk]
theorem att_len {m : List UInt8} (hm : m.length ≤ 1100) : (attL (encS m)).length = 32 + (16 * m.length + 12) := by
  rw [att_enc_eq, List.length_append, symL_len, encS_len hm]
theorem sF_01 {m : List UInt8} (hm : m.length ≤ 1100) {j : Nat} (hj : j < (attL (encS m)).length) : sF (attL (encS m)) j = 0 ∨ sF (attL (encS m)) j = 1 := by
  rw [att_len hm] at hj
  by_cases q : j < 32
  · rw [att_lo q]; unfold symF; omega
  · have := sym_le (bitsOf m) (j - 32)
    have e := att_hi hm (k := j - 32) (by omega)
    rw [show 32 + (j - 32) = j by omega] at e
    rw [e]; omega
theorem g_01 {m : List UInt8} (hm : m.length ≤ 1100) {g : Nat → Int} {k : Nat} (h : FlI (attL (encS m)) k g) {j : Nat} (hj : j < (attL (encS m)).length) : g j = 0 ∨ g j = 1 := by
  have := sF_01 hm hj
  have := h.1 j hj
  omega
/-- The soft values of what has become of the symbols. -/
theorem soft_g {m : List UInt8} (hm : m.length ≤ 1100) {g : Nat → Int} {k : Nat} (h : FlI (attL (encS m)) k g) {j : Nat} (hj : j < (attL (encS m)).length) : softF (Byt.of g (attL (encS m)).length) j = 14 * g j - 7 := by
  unfold softF
  have := g_01 hm h hj
  rw [Mk.bytof_getD hj (by omega) (by omega)]
theorem wr_dcn {m : List UInt8} (hm : m.length ≤ 1100) {g : Nat → Int} {k : Nat} (h : FlI (attL (encS m)) k g) : ∀ n, n ≤ 32 → wr (fun i => softF (Byt.of g (attL (encS m)).length) i) n = dcn (attL (encS m)) g 0 n
  | 0, _ => rfl
  | n + 1, hn => by
    have hl := att_len hm
    have hlt : n < (attL (encS m)).length := by omega
    have e : softF (Byt.of g (attL (encS m)).length) n = 14 * g n - 7 := soft_g hm h hlt
    have hg := g_01 hm h hlt
    have hs := sF_01 hm hlt
    have hy := att_lo (m := m) (k := n) (by omega)
    rw [hy] at hs
    have hw : isW (14 * g n - 7) n = !decide (g n = symF n) := by
      unfold isW
      rcases hg with q | q <;> rcases hs with p | p <;> rw [q, p] <;> decide
    have ih := wr_dcn hm h n (by omega)
    simp only [wr, dcn, Nat.zero_add, e, hy, hw, ih]
    by_cases q : g n = symF n
    · simp [q]
    · simp [q]
theorem near_g {m : List UInt8} (hm : m.length ≤ 1100) {g : Nat → Int} {k : Nat} (h : FlI (attL (encS m)) k g) : Near (bitsOf m) (fun j => softF (Byt.of g (attL (encS m)).length) (32 + j)) (16 * m.length + 12) := fun j hj => by
  have hl := att_len hm
  have hlt : 32 + j < (attL (encS m)).length := by omega
  have e := soft_g hm h hlt
  have hg := h.1 _ hlt
  rw [att_hi hm hj] at hg
  have := sym_le (bitsOf m) j
  show softF _ (32 + j) = _ ∨ softF _ (32 + j) = _
  rw [e]
  unfold sft
  split <;> omega
theorem fl_dcn {m : List UInt8} (hm : m.length ≤ 1100) {g : Nat → Int} {k : Nat} (h : FlI (attL (encS m)) k g) : ∀ n, n ≤ 16 * m.length + 12 → flN (bitsOf m) (fun j => softF (Byt.of g (attL (encS m)).length) (32 + j)) n = dcn (attL (encS m)) g 32 n
  | 0, _ => rfl
  | n + 1, hn => by
    have hl := att_len hm
    have hlt : 32 + n < (attL (encS m)).length := by omega
    have e := soft_g hm h hlt
    have hs := att_hi hm (k := n) (by omega)
    have hle := sym_le (bitsOf m) n
    have hg := g_01 hm h hlt
    simp only [flN, dcn]
    rw [fl_dcn hm h n (by omega)]
    have hq : fl (bitsOf m) (fun j => softF (Byt.of g (attL (encS m)).length) (32 + j)) n = if g (32 + n) = (sym (bitsOf m) n : Nat) then 0 else 1 := by
      unfold fl
      simp only [e]
      unfold sft
      rcases (by omega : sym (bitsOf m) n = 0 ∨ sym (bitsOf m) n = 1) with q | q <;> rw [q] <;> rcases hg with p | p <;> simp only [p] <;> decide
    rw [hq]
    simp only [hs]
theorem soft_ok2 {m : List UInt8} (hm : m.length ≤ 1100) {g : Nat → Int} {k : Nat} (h : FlI (attL (encS m)) k g) : ∀ n, n ≤ (attL (encS m)).length → Mk.softB (softF (Byt.of g (attL (encS m)).length)) n = true
  | 0, _ => rfl
  | n + 1, hn => by
    have e := soft_g hm h (j := n) (by omega)
    have hg := g_01 hm h (j := n) (by omega)
    have ih := soft_ok2 hm h n (by omega)
    rw [Mk.softB, ih, e]
    rcases hg with p | p <;> rw [p] <;> decide
theorem list_g {m : List UInt8} (hm : m.length ≤ 1100) {g : Nat → Int} {k : Nat} (h : FlI (attL (encS m)) k g) : Mk.listB (Byt.of g (attL (encS m)).length) = true := listB_of fun j hj => by
  rw [bofl_len] at hj
  have hg := g_01 hm h hj
  have e := Mk.bytof_getD (f := g) hj (by omega) (by omega)
  show Nat.ble ((Byt.of g (attL (encS m)).length).getD j 0).toNat 1 = true
  rw [Nat.ble_eq]
  omega
end Vt
namespace Vt
open Go Go.Proofs Eng
set_option linter.unusedVariables false
set_option linter.unusedSimpArgs false
set_option maxRecDepth 100000
set_option maxHeartbeats 2000000
/-- The best sums. -/
def svU (n8 : Nat) (f : Nat → Int) : Nat → Nat → Int
  | 0 => fun s => if s = 0 then 0 else least
  | i + 1 => fun t => if cand n8 i (svU n8 f i) (f (2 * i)) (f (2 * i + 1)) t 1 ≤ cand n8 i (svU n8 f i) (f (2 * i)) (f (2 * i + 1)) t 0 then cand n8 i (svU n8 f i) (f (2 * i)) (f (2 * i + 1)) t 0 else cand n8 i (svU n8 f i) (f (2 * i)) (f (2 * i + 1)) t 1
def svF (n8 : Nat) (f : Nat → Int) (i t : Nat) : Nat := if cand n8 i (svU n8 f i) (f (2 * i)) (f (2 * i + 1)) t 1 ≤ cand n8 i (svU n8 f i) (f (2 * i)) (f (2 * i + 1)) t 0 then frm t 0 else frm t 1
theorem sv_best (n8 : Nat) (f : Nat → Int) (i t : Nat) : ∃ k, k < 2 ∧ svU n8 f (i + 1) t = cand n8 i (svU n8 f i) (f (2 * i)) (f (2 * i + 1)) t k ∧ svF n8 f i t = frm t k ∧ ∀ j, j < 2 → cand n8 i (svU n8 f i) (f (2 * i)) (f (2 * i + 1)) t j ≤ svU n8 f (i + 1) t := by
  simp only [svU, svF]
  split
  · rename_i h
    refine ⟨0, by decide, rfl, rfl, fun j hj => ?_⟩
    rcases (by omega : j = 0 ∨ j = 1) with rfl | rfl
    · exact Int.le_refl _
    · exact h
  · rename_i h
    refine ⟨1, by decide, rfl, rfl, fun j hj => ?_⟩
    rcases (by omega : j = 0 ∨ j = 1) with rfl | rfl
    · omega
    · exact Int.le_refl _
theorem sv_good {m : List UInt8} {f : Nat → Int} (hm : m.length ≤ 1100) (hN : Near (bitsOf m) f (16 * m.length + 12)) (hE : erN (bitsOf m) f (8 * m.length + 6) ≤ 4) :
    ∀ i, i ≤ 8 * m.length + 6 → Good2 (bitsOf m) f i (svU (8 * m.length) f i) ∧ ∀ j, j < i → svF (8 * m.length) f j (stAt (bitsOf m) (j + 1)) = stAt (bitsOf m) j
  | 0, _ => ⟨good2_zero rfl fun s _ hs => if_neg hs, fun j hj => absurd hj (Nat.not_lt_zero _)⟩
  | i + 1, hi => by
    obtain ⟨ih1, ih2⟩ := sv_good hm hN hE i (by omega)
    obtain ⟨g1, g2⟩ := good2_step (w := svU (8 * m.length) f (i + 1)) (fr := svF (8 * m.length) f i) (bitsOf_lt m) (bitsOf_tail m) (fun k hk => hN k (by omega)) (Nat.le_trans (erN_mono hi) hE) ih1 (by omega) (fun t _ => sv_best _ f i t)
    refine ⟨g1, fun j hj => ?_⟩
    by_cases q : j = i
    · rw [q]; exact g2
    · exact ih2 j (by omega)
theorem few_uniq {m m' : List UInt8} {f : Nat → Int} (hl : m.length = m'.length) (hm : m.length ≤ 1100) (hN : Near (bitsOf m) f (16 * m.length + 12)) (hE : erN (bitsOf m) f (8 * m.length + 6) ≤ 4)
    (hN' : Near (bitsOf m') f (16 * m'.length + 12)) (hE' : erN (bitsOf m') f (8 * m'.length + 6) ≤ 4) : m = m' := by
  have h1 := (sv_good hm hN hE _ (Nat.le_refl _)).2
  have h2 := (sv_good (by omega) hN' hE' _ (Nat.le_refl _)).2
  rw [← hl] at h2
  have hst : ∀ n, n ≤ 8 * m.length + 6 → stAt (bitsOf m) (8 * m.length + 6 - n) = stAt (bitsOf m') (8 * m.length + 6 - n) := fun n => by
    induction n with
    | zero =>
      intro _
      rw [Nat.sub_zero, st_end (bitsOf_lt m) (bitsOf_tail m), hl, st_end (bitsOf_lt m') (bitsOf_tail m')]
    | succ n ih =>
      intro hn
      have ih := ih (by omega)
      have a1 := h1 (8 * m.length + 6 - (n + 1)) (by omega)
      have a2 := h2 (8 * m.length + 6 - (n + 1)) (by omega)
      rw [show 8 * m.length + 6 - (n + 1) + 1 = 8 * m.length + 6 - n by omega] at a1 a2
      rw [← a1, ← a2, ih]
  have hb : ∀ i, i < 8 * m.length → bitsOf m i = bitsOf m' i := fun i hi => by
    have := hst (8 * m.length + 6 - (i + 1)) (by omega)
    rw [show 8 * m.length + 6 - (8 * m.length + 6 - (i + 1)) = i + 1 by omega] at this
    rw [← st_bit (bitsOf_lt m) i, ← st_bit (bitsOf_lt m') i, this]
  have hp : ∀ j, j < m.length → ∀ n, n ≤ 8 * m.length → pB m j (8 * m.length - n) = pB m' j (8 * m.length - n) := fun j hj n => by
    induction n with
    | zero =>
      intro _
      unfold pB
      rw [show 8 * j + 8 - (8 * m.length - 0) = 0 by omega]
      simp [Nat.mod_one]
    | succ n ih =>
      intro hn
      have ih := ih (by omega)
      have e : 8 * m.length - n = 8 * m.length - (n + 1) + 1 := by omega
      rw [e] at ih
      by_cases q : (8 * m.length - (n + 1)) / 8 = j
      · rw [← q] at ih ⊢
        rw [pB_same m (by omega), pB_same m' (by omega), ih, hb _ (by omega)]
      · rw [← pB_other m q, ← pB_other m' q, ih]
  apply List.ext_getElem hl
  intro j a1 a2
  have h := hp j a1 (8 * m.length) (Nat.le_refl _)
  rw [Nat.sub_self, pB_end, pB_end] at h
  have e := UInt8.toNat_inj.1 h
  simpa [List.getD, a1, a2] using e
theorem rc_uniq {own own' : List UInt8} {d d' : Int} {x : RcD} {r : RowD Int} (hd : posB own.length d = true) (hd' : posB own'.length d' = true) (h : rcPre own d x r) (h' : rcPre own' d' x r) : own' = own ∧ d' = d := by
  obtain ⟨⟨c1, c2, c3⟩, _, _, n1, n2⟩ := h
  obtain ⟨⟨e1, e2, e3⟩, _, _, k1, k2⟩ := h'
  have hdd : d' = d := e2.symm.trans c2
  subst hdd
  have hl : own'.length = own.length := by
    have : (own'.length : Int) = own.length := e1.symm.trans c1
    omega
  obtain ⟨a1, a2, a3, a4⟩ := posB_iff.1 hd
  have l1 := mOf_len hd
  have l2 := mOf_len hd'
  have hm : mOf own' d' = mOf own d' := few_uniq (by omega) (by omega) k1 k2 n1 n2
  refine ⟨?_, rfl⟩
  have hw : Galois.wrapL own' d' = Galois.wrapL own d' := by rw [← mOf_mix hd', ← mOf_mix hd, hm]
  rw [← wrap_take hd', ← wrap_take hd, hw]
/-- Feed of a frame's values; the frame is told. -/
abbrev RE := RO × List UInt8 × Int
noncomputable def recvE := Mk.ecR aRF (fun x => [∃ own : List UInt8, ∃ d : Int, posB own.length d = true ∧ rcPre own d x.1 x.2.1]) (fun x (y : RE) => rcPost y.1 ∧ posB y.2.1.length y.2.2 = true ∧ rcPre y.2.1 y.2.2 x.1 x.2.1) (fun _ y => .tup [.slice aRF.tags y.1.2.2.2.1 y.1.2.2.2.2.1 [] 4 0 1 y.1.2.2.2.2.2 false, .int .i64 0])
  (fun x y => Hp.app (Hp.owned (aRcL.hp 0 (x.1.upd (y.1.1, true, y.1.2.1, x.1.fin.fd.pl + x.2.1.n, false, (Mk.wrA x.2.1.f 0 : Nat), 0) y.1.2.2.1, ())))
    [⟨aRF.tags, y.1.2.2.2.1, y.1.2.2.2.2.1, 4, 1, fun _ => .agg [.str y.2.1, .bool false, .int .i64 0, .int .i64 (flN (bitsOf (mOf y.2.1 y.2.2)) (fun k => x.2.1.f (32 + k)) (16 * (mOf y.2.1 y.2.2).length + 12) : Nat)], true, false, y.1.2.2.2.2.2, 57, false, none⟩]) 1
theorem recvE_ok : EcOk Tryz.prog 18 recvE := by
  intro args H nx K hc hw
  unfold recvE Mk.ecR at hc
  split at hc
  · rename_i ps x hx
    split at hc
    · rename_i hB
      rw [allL_iff] at hc
      obtain ⟨h1, h2⟩ := hc
      rw [allL_iff] at h2
      obtain ⟨h3, h4⟩ := h2
      obtain ⟨⟨own, d, hd, hp⟩, _⟩ := (pOb_true _).1 h3
      refine Mk.ecR_of (recv_ok own d hd) args H nx K ?_ hw
      unfold Mk.ecR
      simp only [hx, hB]
      rw [allL_iff]
      refine ⟨h1, ?_⟩
      rw [allL_iff]
      exact ⟨(pOb_true _).2 ⟨hp, trivial⟩, fun y hy => h4 (y, own, d) ⟨hy, hd, hp⟩⟩
    · exact hc.elim
  · exact hc.elim
/-- What is sent. -/
noncomputable def snOf (own : List UInt8) (d : Int) : List UInt8 := Mk.attL (encS (mOf own d))
theorem snOf_eq {own : List UInt8} {d : Int} (hd : posB own.length d = true) : sendS own d = snOf own d := by
  unfold sendS
  rw [if_pos hd]
  rfl
theorem snOf_len {own : List UInt8} {d : Int} (hd : posB own.length d = true) : (snOf own d).length = 32 + (16 * (mOf own d).length + 12) ∧ (mOf own d).length ≤ 1100 ∧ ((mOf own d).length : Int) = own.length + 8 * d := by
  obtain ⟨a1, a2, a3, a4⟩ := posB_iff.1 hd
  have l1 := mOf_len hd
  exact ⟨att_len (by omega), by omega, by omega⟩
/-- A frame few of whose symbols are inverted can be fed. -/
theorem rc_ready {own : List UInt8} {d : Int} (hd : posB own.length d = true) {g : Nat → Int} {k : Nat} (hk : k ≤ 6) (h : FlI (snOf own d) k g) {x : RcD} {r : RowD Int} (hf : r.f = Mk.softF (Byt.of g (snOf own d).length)) (hn : r.n = (snOf own d).length)
    (hc : chOk x.ch own.length d) (hok : Mk.FD.ok x.fin.fd) (h0 : x.fin.fd.l.n = 0) (ho : x.fin.fd.op = false) (hm : x.fin.fd.ms = 0) (hl : x.fin.fd.len = 16 * ((own.length : Int) + 8 * d) + 12) (hp : x.fin.fd.pl ≤ 1000000000000) : rcPre own d x r := by
  obtain ⟨l1, l2, l3⟩ := snOf_len hd
  obtain ⟨f1, f2, f3⟩ := h
  have he : x.fin.fd.len = ((16 * (mOf own d).length + 12 : Nat) : Int) := by rw [hl]; omega
  refine ⟨hc, ⟨hok, h0, ho, hm, by omega, by omega, by rw [hn, he, l1]; omega, ?_, ?_, ?_⟩, he, ?_, ?_⟩
  · rw [hf, hn]; exact soft_ok2 l2 ⟨f1, f2, f3⟩ _ (Nat.le_refl _)
  · rw [hf]
    have := wr_dcn l2 (g := g) (k := k) ⟨f1, f2, f3⟩ 32 (Nat.le_refl _)
    show Mk.wr (fun i => Mk.softF (Byt.of g (snOf own d).length) (0 + i)) 32 ≤ 2
    simp only [Nat.zero_add]
    show Mk.wr (fun i => Mk.softF (Byt.of g (Mk.attL (encS (mOf own d))).length) i) 32 ≤ 2
    rw [this]
    have f2 : dcn (Mk.attL (encS (mOf own d))) g 0 32 ≤ min k 2 := f2
    omega
  · rw [hn]; omega
  · rw [hf]; exact near_g l2 (k := k) ⟨f1, f2, f3⟩
  · rw [hf, erN_fl]
    have := fl_dcn l2 (g := g) (k := k) ⟨f1, f2, f3⟩ (2 * (8 * (mOf own d).length + 6)) (by omega)
    show flN (bitsOf (mOf own d)) (fun j => Mk.softF (Byt.of g (Mk.attL (encS (mOf own d))).length) (32 + j)) _ ≤ 4
    rw [this]
    have f3 : dcn (Mk.attL (encS (mOf own d))) g 32 ((snOf own d).length - 32) ≤ k - 2 := f3
    rw [l1, show 32 + (16 * (mOf own d).length + 12) - 32 = 2 * (8 * (mOf own d).length + 6) by omega] at f3
    omega
theorem fl_bits {own : List UInt8} {d : Int} (hd : posB own.length d = true) {g : Nat → Int} {k : Nat} (h : FlI (snOf own d) k g) : flN (bitsOf (mOf own d)) (fun j => Mk.softF (Byt.of g (snOf own d).length) (32 + j)) (16 * (mOf own d).length + 12) = dcn (snOf own d) g 32 ((snOf own d).length - 32) := by
  obtain ⟨l1, l2, l3⟩ := snOf_len hd
  have e := fl_dcn (g := g) (k := k) l2 h (16 * (mOf own d).length + 12) (Nat.le_refl _)
  have e2 : (snOf own d).length - 32 = 16 * (mOf own d).length + 12 := by omega
  rw [e2]
  exact e
theorem sF_self (s : List UInt8) : Byt.of (sF s) s.length = s := Galois.bytof_self rfl fun k hk => rfl
end Vt
namespace Vt
open Go Go.Proofs Eng
set_option linter.unusedVariables false
set_option linter.unusedSimpArgs false
set_option maxHeartbeats 8000000
set_option maxRecDepth 100000
def softR := Mk.ecR aS (fun x => [Mk.listB x.1 = true, x.1.length ≤ 40000, 0 < x.1.length]) (fun x (y : Nat × Nat × Nat) => x.1.length ≤ y.2.2) (fun x y => .tup [.slice 0 y.1 y.2.1 [] 1 0 x.1.length y.2.2 false, .int .i64 0]) (fun x y => [⟨0, y.1, y.2.1, 1, x.1.length, fun k => .int .i64 (Mk.softF x.1 k), true, false, y.2.2, 3, false, none⟩]) 1
theorem softR_ok : EcOk Tryz.prog 45 softR := Mk.ecR_of Mk.soften_ok
def newR := Mk.ecR aII (fun x => [posB x.1 x.2.1 = true]) (fun _ (_ : NwY) => True) (fun _ y => .tup [.ptr 5 y.1 0 [.elt 0 6], .int .i64 0])
  (fun x y => [⟨5, y.1, 0, 6, 1, fun _ => .agg [.ptr 1 y.2.1 0 [.elt 0 8], .agg [.fn (.func 53) [] [.ptr 3 y.2.2.2.2 0 [.elt 0 1]], .fn (.func 55) [] [], .fn (.func 56) [] [], .fn (.func 57) [] [.ptr 2 y.2.2.2.1 0 [.elt 0 1], .ptr 3 y.2.2.2.2 0 [.elt 0 1]], .fn (.func 59) [] [.ptr 3 y.2.2.2.2 0 [.elt 0 1]]]], true, true, 1, 69, false, none⟩,
    ⟨1, y.2.1, 0, 8, 1, fun _ => .agg [.ptr 0 y.2.2.1 0 [.elt 0 2], .int .i64 (16 * (x.1 + 8 * x.2.1) + 12), nilSlice, .int .i64 0, .bool false, .int .i64 0, .int .i64 0, .val .nilFunc], true, true, 1, 108, false, none⟩,
    ⟨0, y.2.2.1, 0, 2, 1, fun _ => .agg [.int .i64 0, .bool false], true, true, 1, 105, false, none⟩,
    ⟨2, y.2.2.2.1, 0, 1, 1, fun _ => .int .i64 x.1, true, true, 1, 3, false, none⟩,
    ⟨3, y.2.2.2.2, 0, 1, 1, fun _ => .int .i64 x.2.1, true, true, 1, 3, false, none⟩]) 6
theorem newR_ok : EcOk Tryz.prog 15 newR := Mk.ecR_of new_ok
noncomputable def ECO1 : Env := ((((((E0.addQ 57 (eqStruct [.str, .bool, .int .i64, .int .i64])).addQ 36 eqPt).addE 15 newR).addP 10 dsymC).addP 12 sendC).addE 45 softR).addE 18 recvE
theorem ECO1_ok : EnvOk Tryz.prog ECO1 := ((((((E0_ok.addQ (eqStruct_ok (by kernel_rfl) (by kernel_rfl) (by kernel_rfl) (by kernel_rfl))).addQ (eqPt_ok (by kernel_rfl))).addE newR_ok).addP dsym_ok).addP send_ok).addE softR_ok).addE recvE_ok
noncomputable def ECO2 : Env := ECO1.inl 23 Tryz.f23 fun _ _ => rds 3
theorem ECO2_ok : EnvOk Tryz.prog ECO2 := ECO1_ok.inl _ Tryz.func23 rfl (by kernel_rfl)
noncomputable def EAW : Env := (ECO2.addP 44 Mk.lockedC).inl 21 Tryz.f21 fun _ _ => []
theorem EAW_ok : EnvOk Tryz.prog EAW := (ECO2_ok.addP Mk.locked_ok).inl _ Tryz.func21 rfl (by kernel_rfl)
def fstV : SV → SV
  | .agg (x :: _) => x
  | _ => nilSlice
def sndV : SV → SV
  | .agg (_ :: x :: _) => x
  | _ => nilSlice
/-- The finder that a receiver's slot points to, by its tag. -/
def finG (H : Hp) (r : SV) : Nat := tgG (fstV ((entG H (tgG r)).get 0))
def awJ (fr : Fr) (H : Hp) : LA := ⟨6, Unit, [3, 5], fun _ => [slotV fr 3, slotV fr 5], [finG H (slotV fr 5)], fun _ => [{ entG H (finG H (slotV fr 5)) with get := fun _ => .agg [fstV ((entG H (finG H (slotV fr 5))).get 0), sndV ((entG H (finG H (slotV fr 5))).get 0), .slice 703 0 0 [] 1 0 0 0 true, .int .i64 0, .bool false, .int .i64 0, .int .i64 0, .val .nilFunc] }, ⟨703, 0, 0, 1, 0, fun _ => .int .i64 0, true, false, 0, 3, true, none⟩], fun _ => True, fun _ => 0⟩
def awakeC := pcOf .nil (fun _ => []) (fun _ => .bool true)
theorem awake_ok : PcOk Tryz.prog 9 awakeC := by
  refine pcOf_run (fun _ => EAW_ok) Tryz.func9 rfl (by kernel_rfl) (fun x => trivial)
    (fun x => [.joinD 6 awJ 720]) (fun _ => Nat.le_of_ble_eq_true rfl) (fun () hp hw => ?_)
  refine vc_of (q :=
      ∀ (v1:Int), (v1=if Vt.posB (1:Int) (1:Int)=true then (16:Int)*((1:Int)+(8:Int)*(1:Int))+(44:Int) else (0:Int))→∀ (v2:Int), (v2=if Vt.posB (1:Int) (1:Int)=true then (0:Int) else (2:Int))→∀ (s1:List UInt8), s1=Vt.sendS [(97:UInt8), (98:UInt8)] (1:Int)→∀ (v3:Int), v3=Vt.sendE [(97:UInt8), (98:UInt8)] (1:Int)→Vt.posB (2:Int) (1:Int)=true∧∀ (y1:Nat × Nat × Nat × Nat × Nat), True→∀ (v4:Int), v4=0→(∀
      (t1:Bool), (t1=if (v1 != (188:Int))=true then true else v2 != (0:Int))→∀ (v5:Int), v5=(↑(List.length s1):Int)→∀ (t2:Bool), (t2=if t1=true then true else v5 != (204:Int))→∀ (t3:Bool), (t3=if t2=true then true else v3 != (0:Int))→∀ (t4:Bool), (t4=if t3=true then true else v4 != (0:Int))→∀ (t5:Bool), (t5=if t4=true then true else false)→(t5=true→false=true)∧(t5=false→∃ (x1:Unit),
      s1=s1∧(0=0∧y1.1=y1.1∧0=0)∧((y1.2.1=y1.2.1∧0=0∧false=false∧1≤1∧1≤1∧1≤1)∧(0=0∧y1.2.2.1=y1.2.2.1∧0=0)∧(16:Int)*((2:Int)+(8:Int)*(1:Int))+(12:Int)=(16:Int)*((2:Int)+(8:Int)*(1:Int))+(12:Int)∧SVeq (SV.slice 999999 0 0 [] 0 0 0 0 true) (SV.slice 703 0 0 [] 1 0 0 0 true)∧(0:Int)=(0:Int)∧false=false∧(0:Int)=(0:Int)∧(0:Int)=(0:Int)∧SVeq (SV.val Go.Value.nilFunc) (SV.val
      Go.Value.nilFunc))∧(true=true∧0=0∧0=0)∧True))∧∀ (x1:Unit), True→Mk.listB s1=true∧List.length s1≤40000∧0 < List.length s1∧∀ (y2:Nat × Nat × Nat), List.length s1≤y2.2.2→(y1.1=y1.1∧0=0)∧(y1.2.1=y1.2.1∧0=0)∧(y1.2.2.1=y1.2.2.1∧0=0)∧(0=0∧0=0)∧(0=0∧∀ (k1:Nat), k1 < 0→true=true)∧(y1.2.2.2.2=y1.2.2.2.2∧0=0)∧(y1.2.2.2.1=y1.2.2.2.1∧0=0)∧(y1.2.2.2.2=y1.2.2.2.2∧0=0)∧(y1.2.2.2.2=y1.2.2.2.2∧0=0)∧List.length
      s1≤List.length s1∧(∀ (k2:Nat), k2 < List.length s1→true=true)∧(y2.1=y2.1∧y2.2.1=y2.2.1)∧(∃ (x2:List UInt8), ∃ (x3:Int), Vt.posB (↑(List.length x2):Int) x3=true∧Vt.rcPre x2 x3 (y1.1, 0, (y1.2.1, 0, (y1.2.2.1, 0, (0:Int), false, ()), (16:Int)*((2:Int)+(8:Int)*(1:Int))+(12:Int), Eng.OwnD.mk 0 0 0 0 true 0 0 true fun (k:Nat) ↦ (0:Int), (0:Int), false, (0:Int), (0:Int), Go.Value.nilFunc, ()),
      (((y1.2.2.2.2, 0, (1:Int)), ()), (), (), ((y1.2.2.2.1, 0, (2:Int)), (y1.2.2.2.2, 0, (1:Int)), ()), ((y1.2.2.2.2, 0, (1:Int)), ()), ()), ()) (Eng.RowD.mk y2.1 y2.2.1 (List.length s1) y2.2.2 false (Mk.softF s1)))∧∀ (y3:(Int × Eng.OwnD Int × Go.Value × Nat × Nat × Nat) × List UInt8 × Int), Vt.rcPost y3.1∧Vt.posB (↑(List.length y3.2.1):Int) y3.2.2=true∧Vt.rcPre y3.2.1 y3.2.2 (y1.1, 0, (y1.2.1, 0,
      (y1.2.2.1, 0, (0:Int), false, ()), (16:Int)*((2:Int)+(8:Int)*(1:Int))+(12:Int), Eng.OwnD.mk 0 0 0 0 true 0 0 true fun (k:Nat) ↦ (0:Int), (0:Int), false, (0:Int), (0:Int), Go.Value.nilFunc, ()), (((y1.2.2.2.2, 0, (1:Int)), ()), (), (), ((y1.2.2.2.1, 0, (2:Int)), (y1.2.2.2.2, 0, (1:Int)), ()), ((y1.2.2.2.2, 0, (1:Int)), ()), ()), ()) (Eng.RowD.mk y2.1 y2.2.1 (List.length s1) y2.2.2 false (Mk.softF
      s1))→∀ (v5:Int), v5=0→∀ (v6:Int), v6=(↑(1:Nat):Int)→∀ (t2:Bool), (t2=if (v5==(0:Int))=true then v6==(1:Int) else false)→(t2=true→(0:Int)≤(0:Int))∧(t2=true→(0:Int) < (↑(1:Nat):Int))∧(t2=true→(y3.1.2.2.2).1=(y3.1.2.2.2).1∧((y3.1.2.2.2).2).1=((y3.1.2.2.2).2).1)∧(t2=true→0 < 1)∧∀ (t3:Bool), (t3=if t2=true then y3.2.1==[(97:UInt8), (98:UInt8)]&&(false==false&&((0:Int)==(0:Int)&&((↑(Vt.flN (Vt.bitsOf
      (Vt.mOf y3.2.1 y3.2.2)) (fun (k:Nat) ↦ Mk.softF s1 (32+k)) (16*List.length (Vt.mOf y3.2.1 y3.2.2)+12)):Int)==(0:Int)&&true))) else false)→(t3=true→((!false)=true→y1.1=y1.1∧0=0)∧((!false)=true→y1.2.1=y1.2.1∧0=0)∧((!false)=true→y1.2.2.1=y1.2.2.1∧0=0)∧∀ (t4:Bool), t4=true→∀ (t5:Bool), (t5=if (!false)=true then t4 else false)→∀ (t6:Bool), t6=t5→∀ (t7:Bool), (t7=if t3=true then t6 else
      false)→t7=true)∧((t3=true→False)→∀ (t5:Bool), (t5=if t3=true then false else false)→t5=true)) (by kernel_rfl) ?_
  try simp only [eq_self, true_and, and_true, Nat.le_refl, implies_true, forall_const, Bool.false_eq_true, Bool.true_eq_false, reduceCtorEq, false_imp_iff, true_imp_iff, Int.toNat_zero, Int.toNat_natCast, Nat.zero_lt_one, Int.le_refl, allGet]
  have hd : posB ([97, 98] : List UInt8).length 1 = true := by decide
  obtain ⟨l1, l2, l3⟩ := snOf_len hd
  have l3 : ((mOf [97, 98] 1).length : Int) = 10 := l3
  have hF := FlI_zero (s := snOf [97, 98] 1)
  have hsf := sF_self (snOf [97, 98] 1)
  intro v1 e1 v2 e2 s1 es v3 e3
  have es : s1 = snOf [97, 98] 1 := es.trans (snOf_eq hd)
  have hrc : ∀ (x : RcD) (r : RowD Int), r.f = Mk.softF s1 → r.n = s1.length → chOk x.ch ([97, 98] : List UInt8).length 1 → Mk.FD.ok x.fin.fd → x.fin.fd.l.n = 0 → x.fin.fd.op = false → x.fin.fd.ms = 0 → x.fin.fd.len = 16 * ((([97, 98] : List UInt8).length : Int) + 8 * 1) + 12 → x.fin.fd.pl ≤ 1000000000000 → rcPre [97, 98] 1 x r := fun x r a1 a2 => rc_ready hd (k := 0) (by omega) hF (by rw [a1, hsf, es]) (by rw [a2, es])
  have hb0 : flN (bitsOf (mOf [97, 98] 1)) (fun k => Mk.softF s1 (32 + k)) (16 * (mOf [97, 98] 1).length + 12) = 0 := by
    have := fl_bits hd hF
    rw [hsf, dcn_self (fun _ _ => rfl)] at this
    rw [es]
    exact this
  have e1 : v1 = 188 := e1.trans (by decide)
  have e2 : v2 = 0 := e2.trans (by decide)
  have e3 : v3 = 0 := e3.trans (by decide)
  refine ⟨by decide, fun y1 v4 e4 => ⟨fun t1 f1 v5 e5 t2 f2 t3 f3 t4 f4 t5 f5 => ?_, ?_, ?_, ?_, fun y2 hy2 => ⟨⟨[97, 98], 1, hd, ?_⟩, fun y3 hy3 v5 e5 v6 e6 t2 f2 => ?_⟩⟩⟩
  · have q1 : t1 = false := by rw [f1, e1, e2]; rfl
    have q2 : t2 = false := by rw [f2, q1, e5, es, l1, show 32 + (16 * (mOf [97, 98] 1).length + 12) = 204 by omega]; rfl
    have q5 : t5 = false := by rw [f5, f4, f3, q2, e3, e4]; rfl
    exact ⟨fun h => (by rw [q5] at h; cases h), fun _ => ⟨(), nil_eqv rfl rfl rfl, SVeq.of_eq rfl⟩⟩
  · have q : Mk.listB (Byt.of (sF (snOf [97, 98] 1)) (snOf [97, 98] 1).length) = true := list_g l2 hF
    rw [hsf] at q
    rw [es]
    exact q
  · rw [es]; omega
  · rw [es]; omega
  · exact hrc _ _ rfl rfl ⟨rfl, rfl, rfl⟩ ⟨⟨Nat.le_refl _, Nat.le_refl _, Nat.le_refl _, Nat.le_refl _⟩, fun h => h, Int.le_refl _, of_decide_eq_true rfl, Int.le_refl _, of_decide_eq_true rfl⟩ rfl rfl rfl rfl (of_decide_eq_true rfl)
  · obtain ⟨_, p1, p2⟩ := hy3
    have hu0 := fun hq => rc_uniq hd p1 hq p2
    have hu := hu0 (hrc _ _ rfl rfl ⟨rfl, rfl, rfl⟩ ⟨⟨Nat.le_refl _, Nat.le_refl _, Nat.le_refl _, Nat.le_refl _⟩, fun h => h, Int.le_refl _, of_decide_eq_true rfl, Int.le_refl _, of_decide_eq_true rfl⟩ rfl rfl rfl rfl (of_decide_eq_true rfl))
    refine ⟨fun _ => by decide, fun t3 f3 => ?_⟩
    rw [hu.1, hu.2, hb0, f2, e5, e6] at f3
    have q3 : t3 = true := f3
    exact ⟨fun _ t4 f4 t5 f5 t6 f6 t7 f7 => (by rw [f7, q3, f6, f5, f4]; rfl), fun h => (h q3).elim⟩
end Vt
namespace Vt
open Go Go.Proofs Eng
set_option linter.unusedVariables false
set_option linter.unusedSimpArgs false
set_option maxHeartbeats 8000000
set_option maxRecDepth 100000
noncomputable def ECO : Env := ((ECO2.addP 22 filC).addP 9 awakeC)
theorem ECO_ok : EnvOk Tryz.prog ECO := ((ECO2_ok.addP fil_ok).addP awake_ok)
def strOf : SV → List UInt8
  | .str l => l
  | _ => []
abbrev CX := Nat × Int × Bool × OwnD Int × Int × Int × Value
def corL9 (nf : Nat) (fr : Fr) (H : Hp) : LA := ⟨9, CX, [12], fun y => [.int .i64 (y.1 : Nat)], [tgG (slotV fr 8), finG H (slotV fr 8), tgG (fstV ((entG H (finG H (slotV fr 8))).get 0))],
  fun y => [entG H (tgG (slotV fr 8)), { entG H (finG H (slotV fr 8)) with get := fun _ => .agg [fstV ((entG H (finG H (slotV fr 8))).get 0), sndV ((entG H (finG H (slotV fr 8))).get 0), .slice 703 y.2.2.2.1.b y.2.2.2.1.off [] 1 0 0 y.2.2.2.1.c y.2.2.2.1.z, .int .i64 y.2.2.2.2.1, .bool false, .int .i64 y.2.2.2.2.2.1, .int .i64 0, .val y.2.2.2.2.2.2] },
    { entG H (tgG (fstV ((entG H (finG H (slotV fr 8))).get 0))) with get := fun _ => .agg [.int .i64 y.2.1, .bool y.2.2.1] },
    ⟨703, y.2.2.2.1.b, y.2.2.2.1.off, 1, y.2.2.2.1.m, fun k => .int .i64 (y.2.2.2.1.f k), true, false, y.2.2.2.1.cap, 3, y.2.2.2.1.ez, none⟩],
  fun y => y.1 ≤ nf ∧ y.2.2.2.1.m ≤ y.2.2.2.1.cap ∧ y.2.2.2.1.c ≤ y.2.2.2.1.cap ∧ (y.2.2.2.1.z = true → y.2.2.2.1.ez = true) ∧ 0 ≤ y.2.2.2.2.1 ∧ y.2.2.2.2.1 ≤ 20032 * (y.1 : Int), fun y => nf - y.1⟩
def corL18 (fr : Fr) (H : Hp) : LA := ⟨18, Nat × (Nat → Int), [18], fun y => [.int .i64 (y.1 : Nat)], [tgG (slotV fr 16)], fun y => [{ entG H (tgG (slotV fr 16)) with get := fun j => .int .u8 (y.2 j) }], fun y => y.1 ≤ 6 ∧ FlI (strOf (slotV fr 14)) y.1 y.2, fun y => 6 - y.1⟩
def corL26 (fr : Fr) (H : Hp) : LA := ⟨26, Nat, [21, 17], fun k => [.int .i64 (32 + k : Nat), .int .i64 (dcn (strOf (slotV fr 14)) (fun j => intOf ((entG H (tgG (slotV fr 16))).get j)) 32 k : Nat)], [], fun _ => [], fun k => k ≤ (strOf (slotV fr 14)).length - 32, fun k => (strOf (slotV fr 14)).length - 32 - k⟩
abbrev aCor : ArgL (RowD (List UInt8) × Int × RowD Int × Unit) := .cons (.row .str) (.cons (.elt (.int .i64)) (.cons (.row (.int .u16)) .nil))
abbrev CorIn (x : RowD (List UInt8) × Int × RowD Int × Unit) : Prop := (x.1.n ≤ x.1.c ∧ x.1.c * 16 ≤ 140737488351232 ∧ ∀ i, i < x.1.n → (x.1.f i).length ≤ 140737488351232) ∧ inKind .i64 x.2.1 ∧ (x.2.2.1.n ≤ x.2.2.1.c ∧ x.2.2.1.c * 2 ≤ 140737488351232 ∧ ∀ i, i < x.2.2.1.n → inKind .u16 (x.2.2.1.f i)) ∧ True
theorem u16_in {x : Int} (h : inKind .u16 x) : 0 ≤ x ∧ x ≤ 65535 := by
  have h' : (decide _ && decide _) = true := h
  simpa [IntKind.min, IntKind.max, IntKind.bits, IntKind.signed] using h'
theorem or_f {t a b : Bool} (h : t = if a = true then true else b) (q : t = false) : a = false ∧ b = false := by
  subst h
  cases a <;> simp_all
theorem cor_walk : ∀ (x : RowD (List UInt8) × Int × RowD Int × Unit) (hR : CorIn x) (hw : ∀ v ∈ aCor.svs 0 x, v.wf), exCode ECO Tryz.f5.ntmps [.loopD 9 (corL9 x.1.n), .loopD 18 corL18, .loopD 26 corL26, .draw 28 (.take 0 (.take 1 (.take 2 (.take 3 (.take 4 (.take 5 (.take 6 (.take 7 .fin)))))))) []] (match Tryz.f5.body with | some c => c | none => .skip) (argFr 0 (aCor.svs 0 x)) (aCor.hp 0 x) aCor.tags (atEnd ECO Tryz.f5.results.toList fun r _ _ => eqv r (.bool true)) := by
  refine fun ⟨⟨b, off, n, c, z, f⟩, d, ⟨pb, po, pn, pc, pz, pf⟩, ()⟩ hR hw => ?_
  refine vc_of (q :=
      ∀ (v1:Int), v1=(↑n:Int)→∀ (v2:Int), v2=(↑n:Int)→∀ (t1:Bool), (t1=if (v1==(0:Int))=true then true else decide (v2 > (4:Int)))→∀ (t2:Bool), (t2=if t1=true then true else decide (d < (1:Int)))→∀ (t3:Bool), (t3=if t2=true then true else decide (d > (4:Int)))→(t3=false→(0:Int)≤(0:Int))∧(t3=false→(0:Int) < (↑n:Int))∧(t3=false→b=b∧off=off)∧(t3=false→0 < n)∧∀ (v3:Int), v3=(↑(List.length (f 0)):Int)→∀
      (t4:Bool), (t4=if t3=true then true else decide (v3 < d))→(t4=false→(0:Int)≤(0:Int))∧(t4=false→(0:Int) < (↑n:Int))∧(t4=false→b=b∧off=off)∧(t4=false→0 < n)∧∀ (v4:Int), v4=(↑(List.length (f 0)):Int)→∀ (v5:Int), v5=IntKind.i64.wrap ((223:Int)*d)→∀ (t5:Bool), (t5=if t4=true then true else decide (v4 > v5))→∀ (v6:Int), v6=(↑pn:Int)→∀ (t6:Bool), (t6=if t5=true then true else v6==(0:Int))→∀ (v7:Int),
      v7=(↑pn:Int)→∀ (t7:Bool), (t7=if t6=true then true else decide (v7 > (100:Int)))→(t7=true→∀ (t8:Bool), t8=true→t8=true)∧(t7=false→(0:Int)≤(0:Int)∧(0:Int) < (↑n:Int)∧(b=b∧off=off)∧0 < n∧∀ (v8:Int), v8=(↑(List.length (f 0)):Int)→Vt.posB v8 d=true∧∀ (y1:Nat × Nat × Nat × Nat × Nat), True→∀ (v9:Int), v9=0→∀ (v10:Int), (v10=if Vt.posB v8 d=true then (16:Int)*(v8+(8:Int)*d)+(44:Int) else (0:Int))→∀
      (v11:Int), (v11=if Vt.posB v8 d=true then (0:Int) else (2:Int))→∀ (t9:Bool), (t9=if (v9 != (0:Int))=true then true else v11 != (0:Int))→∀ (t10:Bool), (t10=if t9=true then true else decide (v10 < (33:Int)))→(t10=true→false=true)∧(t10=false→(∃ (x1:Nat × Int × Bool × Eng.OwnD Int × Int × Int × Go.Value), (0:Int)=(↑x1.1:Int)∧((y1.1=y1.1∧0=0∧false=false∧1≤1∧1≤1∧1≤1)∧(0=0∧y1.2.1=y1.2.1∧0=0)∧SVeq (SV.fn
      (Go.Fn.func (53:Go.FuncId)) [] [SV.ptr 5 (y1.2.2.2.2) 0 [PS.elt 0 1]]) (SV.fn (Go.Fn.func (53:Go.FuncId)) [] [SV.ptr 5 (y1.2.2.2.2) 0 [PS.elt 0 1]])∧SVeq (SV.fn (Go.Fn.func (55:Go.FuncId)) [] []) (SV.fn (Go.Fn.func (55:Go.FuncId)) [] [])∧SVeq (SV.fn (Go.Fn.func (56:Go.FuncId)) [] []) (SV.fn (Go.Fn.func (56:Go.FuncId)) [] [])∧SVeq (SV.fn (Go.Fn.func (57:Go.FuncId)) [] [SV.ptr 4 (y1.2.2.2.1) 0
      [PS.elt 0 1], SV.ptr 5 (y1.2.2.2.2) 0 [PS.elt 0 1]]) (SV.fn (Go.Fn.func (57:Go.FuncId)) [] [SV.ptr 4 (y1.2.2.2.1) 0 [PS.elt 0 1], SV.ptr 5 (y1.2.2.2.2) 0 [PS.elt 0 1]])∧SVeq (SV.fn (Go.Fn.func (59:Go.FuncId)) [] [SV.ptr 5 (y1.2.2.2.2) 0 [PS.elt 0 1]]) (SV.fn (Go.Fn.func (59:Go.FuncId)) [] [SV.ptr 5 (y1.2.2.2.2) 0 [PS.elt 0
      1]]))∧((y1.2.1=y1.2.1∧0=0∧false=false∧1≤1∧1≤1∧1≤1)∧(0=0∧y1.2.2.1=y1.2.2.1∧0=0)∧(16:Int)*(v8+(8:Int)*d)+(12:Int)=(16:Int)*(v8+(8:Int)*d)+(12:Int)∧SVeq (SV.slice 999999 0 0 [] 0 0 0 0 true) (SV.slice 703 (Eng.OwnD.b (x1.2.2.2.1)) (Eng.OwnD.off (x1.2.2.2.1)) [] 1 0 0 (Eng.OwnD.c (x1.2.2.2.1)) (Eng.OwnD.z (x1.2.2.2.1)))∧(0:Int)=(x1.2.2.2.2).1∧false=false∧(0:Int)=((x1.2.2.2.2).2).1∧(0:Int)=(0:Int)∧SVeq
      (SV.val Go.Value.nilFunc) (SV.val (((x1.2.2.2.2).2).2)))∧((y1.2.2.1=y1.2.2.1∧0=0∧false=false∧1≤1∧1≤1∧1≤1)∧(0:Int)=x1.2.1∧false=x1.2.2.1)∧(Eng.OwnD.ez (x1.2.2.2.1)=true∧Eng.OwnD.m (x1.2.2.2.1)=0∧Eng.OwnD.cap (x1.2.2.2.1)=0)∧x1.1≤n∧Eng.OwnD.m (x1.2.2.2.1)≤Eng.OwnD.cap (x1.2.2.2.1)∧Eng.OwnD.c (x1.2.2.2.1)≤Eng.OwnD.cap (x1.2.2.2.1)∧(Eng.OwnD.z (x1.2.2.2.1)=true→Eng.OwnD.ez
      (x1.2.2.2.1)=true)∧(0:Int)≤(x1.2.2.2.2).1∧(x1.2.2.2.2).1≤(20032:Int)*(↑x1.1:Int))∧∀ (x2:Nat × Int × Bool × Eng.OwnD Int × Int × Int × Go.Value), x2.1≤n∧Eng.OwnD.m (x2.2.2.2.1)≤Eng.OwnD.cap (x2.2.2.2.1)∧Eng.OwnD.c (x2.2.2.2.1)≤Eng.OwnD.cap (x2.2.2.2.1)∧(Eng.OwnD.z (x2.2.2.2.1)=true→Eng.OwnD.ez (x2.2.2.2.1)=true)∧(0:Int)≤(x2.2.2.2.2).1∧(x2.2.2.2.2).1≤(20032:Int)*(↑x2.1:Int)→∀ (v12:Int),
      v12=(↑n:Int)→(decide ((↑x2.1:Int) < v12)=true→(0:Int)≤(↑x2.1:Int)∧(↑x2.1:Int) < (↑n:Int)∧(b=b∧off=off)∧Int.toNat (↑x2.1:Int) < n∧0≤v8∧v8≤100000∧∀ (s1:List UInt8), s1=Vt.filS (f (Int.toNat (↑x2.1:Int))) (Min.min (Int.toNat v8) 100000)→∀ (s2:List UInt8), s2=Vt.sendS s1 d→∀ (v13:Int), v13=Vt.sendE s1 d→∀ (v14:Int), v14=(↑(List.length s2):Int)→∀ (t11:Bool), (t11=if (v13 != (0:Int))=true then true else
      v14 != v10)→(t11=true→false=true)∧(t11=false→∀ (b1 b2:Nat), List.length s2≤b2→b2≤9223372036854775807→(∃ (x3:Nat × (Nat→Int)), (0:Int)=(↑x3.1:Int)∧((b1=b1∧0=0∧false=false∧List.length s2≤List.length s2∧List.length s2≤b2∧b2≤b2)∧∀ (i1:Nat), i1 < List.length s2→(↑(UInt8.toNat (List.getD s2 i1 0)):Int)=x3.2 i1)∧x3.1≤6∧Vt.FlI (Vt.strOf (SV.str s2)) x3.1 x3.2)∧∀ (x4:Nat × (Nat→Int)), x4.1≤6∧Vt.FlI
      (Vt.strOf (SV.str s2)) x4.1 x4.2→(decide ((↑x4.1:Int) < (6:Int))=true→∀ (v15:Int), v15=IntKind.i64.wrap ((6:Int)*(↑x2.1:Int))→∀ (v16:Int), v16=IntKind.i64.wrap (v15+(↑x4.1:Int))→∀ (v17:Int), v17=(↑pn:Int)→v17≠0∧∀ (v18:Int), v18=Int.tmod v16 v17→0≤v18∧v18 < (↑pn:Int)∧(pb=pb∧po=po)∧Int.toNat v18 < pn∧∀ (v19:Int), v19=IntKind.i64.wrap (pf (Int.toNat v18))→(32:Int)≠(0:Int)∧∀ (v20:Int), v20=Int.tmod v19
      (32:Int)→(decide ((↑x4.1:Int)≥(2:Int))=true→∀ (v21:Int), v21=IntKind.i64.wrap (v10 - (32:Int))→v21≠0∧∀ (v22:Int), v22=Int.tmod v19 v21→∀ (v23:Int), v23=IntKind.i64.wrap ((32:Int)+v22)→0≤v23∧v23 < (↑(List.length s2):Int)∧(b1=b1∧0=0)∧Int.toNat v23 < List.length s2∧∀ (v24:Int), v24=IntKind.u8.wrap ((1:Int) - x4.2 (Int.toNat v23))→0≤v23∧v23 < (↑(List.length s2):Int)∧(b1=b1∧0=0)∧Int.toNat v23 <
      List.length s2∧∀ (v25:Int), v25=IntKind.i64.wrap ((↑x4.1:Int)+(1:Int))→∃ (x5:Nat × (Nat→Int)), v25=(↑x5.1:Int)∧((b1=b1∧0=0∧false=false∧List.length s2≤List.length s2∧List.length s2≤b2∧b2≤b2)∧∀ (i2:Nat), i2 < List.length s2→(if i2=Int.toNat v23 then v24 else x4.2 i2)=x5.2 i2)∧(x5.1≤6∧Vt.FlI (Vt.strOf (SV.str s2)) x5.1 x5.2)∧6 - x5.1 < 6 - x4.1)∧(decide ((↑x4.1:Int)≥(2:Int))=false→0≤v20∧v20 <
      (↑(List.length s2):Int)∧(b1=b1∧0=0)∧Int.toNat v20 < List.length s2∧∀ (v22:Int), v22=IntKind.u8.wrap ((1:Int) - x4.2 (Int.toNat v20))→0≤v20∧v20 < (↑(List.length s2):Int)∧(b1=b1∧0=0)∧Int.toNat v20 < List.length s2∧∀ (v23:Int), v23=IntKind.i64.wrap ((↑x4.1:Int)+(1:Int))→∃ (x5:Nat × (Nat→Int)), v23=(↑x5.1:Int)∧((b1=b1∧0=0∧false=false∧List.length s2≤List.length s2∧List.length s2≤b2∧b2≤b2)∧∀ (i2:Nat), i2
      < List.length s2→(if i2=Int.toNat v20 then v22 else x4.2 i2)=x5.2 i2)∧(x5.1≤6∧Vt.FlI (Vt.strOf (SV.str s2)) x5.1 x5.2)∧6 - x5.1 < 6 - x4.1))∧(decide ((↑x4.1:Int) < (6:Int))=false→(∃ (x5:Nat), (32:Int)=(↑(32+x5):Int)∧(0:Int)=(↑(Vt.dcn (Vt.strOf (SV.str s2)) x4.2 32 x5):Int)∧Nat.le x5 (List.length (Vt.strOf (SV.str s2)) - 32))∧∀ (b3:Nat), b3≤List.length (Vt.strOf (SV.str s2)) - 32→(decide
      ((↑(32+b3):Int) < v10)=true→(0:Int)≤(↑(32+b3):Int)∧(↑(32+b3):Int) < (↑(List.length s2):Int)∧(b1=b1∧0=0)∧Int.toNat (↑(32+b3):Int) < List.length s2∧(0:Int)≤(↑(32+b3):Int)∧(↑(32+b3):Int) < (↑(List.length s2):Int)∧((x4.2 (Int.toNat (↑(32+b3):Int)) != (↑(UInt8.toNat (List.getD s2 (Int.toNat (↑(32+b3):Int)) 0)):Int))=true→∀ (v16:Int), v16=IntKind.i64.wrap ((↑(Vt.dcn (Vt.strOf (SV.str s2)) x4.2 32
      b3):Int)+(1:Int))→∀ (v17:Int), v17=IntKind.i64.wrap ((↑(32+b3):Int)+(1:Int))→∃ (x6:Nat), v17=(↑(32+x6):Int)∧v16=(↑(Vt.dcn (Vt.strOf (SV.str s2)) x4.2 32 x6):Int)∧x6≤List.length (Vt.strOf (SV.str s2)) - 32∧List.length (Vt.strOf (SV.str s2)) - 32 - x6 < List.length (Vt.strOf (SV.str s2)) - 32 - b3)∧((x4.2 (Int.toNat (↑(32+b3):Int)) != (↑(UInt8.toNat (List.getD s2 (Int.toNat (↑(32+b3):Int))
      0)):Int))=false→∀ (v17:Int), v17=IntKind.i64.wrap ((↑(32+b3):Int)+(1:Int))→∃ (x6:Nat), v17=(↑(32+x6):Int)∧(↑(Vt.dcn (Vt.strOf (SV.str s2)) x4.2 32 b3):Int)=(↑(Vt.dcn (Vt.strOf (SV.str s2)) x4.2 32 x6):Int)∧x6≤List.length (Vt.strOf (SV.str s2)) - 32∧List.length (Vt.strOf (SV.str s2)) - 32 - x6 < List.length (Vt.strOf (SV.str s2)) - 32 - b3))∧(decide ((↑(32+b3):Int) < v10)=false→List.length
      s2≤List.length s2∧(∀ (k1:Nat), k1 < List.length s2→true=true)∧(b1=b1∧0=0)∧∀ (s3:List UInt8), s3=Byt.of x4.2 (List.length s2)→Mk.listB s3=true∧List.length s3≤40000∧0 < List.length s3∧∀ (y2:Nat × Nat × Nat), List.length s3≤y2.2.2→(y1.1=y1.1∧0=0)∧(y1.2.1=y1.2.1∧0=0)∧(y1.2.2.1=y1.2.2.1∧0=0)∧(Eng.OwnD.b (x2.2.2.2.1)=Eng.OwnD.b (x2.2.2.2.1)∧Eng.OwnD.off (x2.2.2.2.1)=Eng.OwnD.off (x2.2.2.2.1))∧(0=0∧∀
      (k2:Nat), k2 < Eng.OwnD.m (x2.2.2.2.1)→true=true)∧(y1.2.2.2.2=y1.2.2.2.2∧0=0)∧(y1.2.2.2.1=y1.2.2.2.1∧0=0)∧(y1.2.2.2.2=y1.2.2.2.2∧0=0)∧(y1.2.2.2.2=y1.2.2.2.2∧0=0)∧List.length s3≤List.length s3∧(∀ (k3:Nat), k3 < List.length s3→true=true)∧(y2.1=y2.1∧y2.2.1=y2.2.1)∧(∃ (x6:List UInt8), ∃ (x7:Int), Vt.posB (↑(List.length x6):Int) x7=true∧Vt.rcPre x6 x7 (y1.1, 0, (y1.2.1, 0, (y1.2.2.1, 0, x2.2.1,
      x2.2.2.1, ()), (16:Int)*(v8+(8:Int)*d)+(12:Int), Eng.OwnD.mk (Eng.OwnD.b (x2.2.2.2.1)) (Eng.OwnD.off (x2.2.2.2.1)) 0 (Eng.OwnD.c (x2.2.2.2.1)) (Eng.OwnD.z (x2.2.2.2.1)) (Eng.OwnD.m (x2.2.2.2.1)) (Eng.OwnD.cap (x2.2.2.2.1)) (Eng.OwnD.ez (x2.2.2.2.1)) (Eng.OwnD.f (x2.2.2.2.1)), (x2.2.2.2.2).1, false, ((x2.2.2.2.2).2).1, (0:Int), ((x2.2.2.2.2).2).2, ()), (((y1.2.2.2.2, 0, d), ()), (), (),
      ((y1.2.2.2.1, 0, v8), (y1.2.2.2.2, 0, d), ()), ((y1.2.2.2.2, 0, d), ()), ()), ()) (Eng.RowD.mk y2.1 y2.2.1 (List.length s3) y2.2.2 false (Mk.softF s3)))∧∀ (y3:(Int × Eng.OwnD Int × Go.Value × Nat × Nat × Nat) × List UInt8 × Int), Vt.rcPost y3.1∧Vt.posB (↑(List.length y3.2.1):Int) y3.2.2=true∧Vt.rcPre y3.2.1 y3.2.2 (y1.1, 0, (y1.2.1, 0, (y1.2.2.1, 0, x2.2.1, x2.2.2.1, ()),
      (16:Int)*(v8+(8:Int)*d)+(12:Int), Eng.OwnD.mk (Eng.OwnD.b (x2.2.2.2.1)) (Eng.OwnD.off (x2.2.2.2.1)) 0 (Eng.OwnD.c (x2.2.2.2.1)) (Eng.OwnD.z (x2.2.2.2.1)) (Eng.OwnD.m (x2.2.2.2.1)) (Eng.OwnD.cap (x2.2.2.2.1)) (Eng.OwnD.ez (x2.2.2.2.1)) (Eng.OwnD.f (x2.2.2.2.1)), (x2.2.2.2.2).1, false, ((x2.2.2.2.2).2).1, (0:Int), ((x2.2.2.2.2).2).2, ()), (((y1.2.2.2.2, 0, d), ()), (), (), ((y1.2.2.2.1, 0, v8),
      (y1.2.2.2.2, 0, d), ()), ((y1.2.2.2.2, 0, d), ()), ()), ()) (Eng.RowD.mk y2.1 y2.2.1 (List.length s3) y2.2.2 false (Mk.softF s3))→∀ (v18:Int), v18=0→∀ (v19:Int), v19=(↑(1:Nat):Int)→∀ (t12:Bool), (t12=if (v18 != (0:Int))=true then true else v19 != (1:Int))→(t12=false→(0:Int)≤(0:Int))∧(t12=false→(0:Int) <
      (↑(1:Nat):Int))∧(t12=false→(y3.1.2.2.2).1=(y3.1.2.2.2).1∧((y3.1.2.2.2).2).1=((y3.1.2.2.2).2).1)∧(t12=false→0 < 1)∧∀ (t13:Bool), (t13=if t12=true then true else !(y3.2.1==s1&&(false==false&&((0:Int)==(0:Int)&&((↑(Vt.flN (Vt.bitsOf (Vt.mOf y3.2.1 y3.2.2)) (fun (k:Nat) ↦ Mk.softF s3 (32+k)) (16*List.length (Vt.mOf y3.2.1 y3.2.2)+12)):Int)==(↑(Vt.dcn (Vt.strOf (SV.str s2)) x4.2 32
      b3):Int)&&true)))))→(t13=true→false=true)∧(t13=false→∀ (v20:Int), v20=IntKind.i64.wrap ((↑x2.1:Int)+(1:Int))→∃ (x8:Nat × Int × Bool × Eng.OwnD Int × Int × Int × Go.Value), v20=(↑x8.1:Int)∧((y1.1=y1.1∧0=0∧false=false∧1≤1∧1≤1∧1≤1)∧(0=0∧y1.2.1=y1.2.1∧0=0)∧SVeq (SV.fn (Go.Fn.func (53:Go.FuncId)) [] [SV.ptr 5 (y1.2.2.2.2) 0 [PS.elt 0 1]]) (SV.fn (Go.Fn.func (53:Go.FuncId)) [] [SV.ptr 5 (y1.2.2.2.2) 0
      [PS.elt 0 1]])∧SVeq (SV.fn (Go.Fn.func (55:Go.FuncId)) [] []) (SV.fn (Go.Fn.func (55:Go.FuncId)) [] [])∧SVeq (SV.fn (Go.Fn.func (56:Go.FuncId)) [] []) (SV.fn (Go.Fn.func (56:Go.FuncId)) [] [])∧SVeq (SV.fn (Go.Fn.func (57:Go.FuncId)) [] [SV.ptr 4 (y1.2.2.2.1) 0 [PS.elt 0 1], SV.ptr 5 (y1.2.2.2.2) 0 [PS.elt 0 1]]) (SV.fn (Go.Fn.func (57:Go.FuncId)) [] [SV.ptr 4 (y1.2.2.2.1) 0 [PS.elt 0 1], SV.ptr 5
      (y1.2.2.2.2) 0 [PS.elt 0 1]])∧SVeq (SV.fn (Go.Fn.func (59:Go.FuncId)) [] [SV.ptr 5 (y1.2.2.2.2) 0 [PS.elt 0 1]]) (SV.fn (Go.Fn.func (59:Go.FuncId)) [] [SV.ptr 5 (y1.2.2.2.2) 0 [PS.elt 0 1]]))∧((y1.2.1=y1.2.1∧0=0∧false=false∧1≤1∧1≤1∧1≤1)∧(0=0∧y1.2.2.1=y1.2.2.1∧0=0)∧(16:Int)*(v8+(8:Int)*d)+(12:Int)=(16:Int)*(v8+(8:Int)*d)+(12:Int)∧(Eng.OwnD.b y3.1.2.1=Eng.OwnD.b (x8.2.2.2.1)∧Eng.OwnD.off
      y3.1.2.1=Eng.OwnD.off (x8.2.2.2.1)∧0=0∧Eng.OwnD.n y3.1.2.1=0∧Eng.OwnD.c y3.1.2.1=Eng.OwnD.c (x8.2.2.2.1)∧Eng.OwnD.z y3.1.2.1=Eng.OwnD.z (x8.2.2.2.1))∧(x2.2.2.2.2).1+(↑(List.length s3):Int)=(x8.2.2.2.2).1∧false=false∧(↑(Mk.wrA (Mk.softF s3) 0):Int)=((x8.2.2.2.2).2).1∧(0:Int)=(0:Int)∧SVeq (SV.val (y3.1.2.2.1)) (SV.val
      (((x8.2.2.2.2).2).2)))∧((y1.2.2.1=y1.2.2.1∧0=0∧false=false∧1≤1∧1≤1∧1≤1)∧y3.1.1=x8.2.1∧true=x8.2.2.1)∧((Eng.OwnD.b y3.1.2.1=Eng.OwnD.b (x8.2.2.2.1)∧Eng.OwnD.off y3.1.2.1=Eng.OwnD.off (x8.2.2.2.1)∧Eng.OwnD.ez y3.1.2.1=Eng.OwnD.ez (x8.2.2.2.1)∧Eng.OwnD.m (x8.2.2.2.1)≤Eng.OwnD.m y3.1.2.1∧Eng.OwnD.m (x8.2.2.2.1)≤Eng.OwnD.cap (x8.2.2.2.1)∧Eng.OwnD.cap (x8.2.2.2.1)≤Eng.OwnD.cap y3.1.2.1)∧∀ (i2:Nat), i2 <
      Eng.OwnD.m (x8.2.2.2.1)→Eng.OwnD.f y3.1.2.1 i2=Eng.OwnD.f (x8.2.2.2.1) i2)∧(x8.1≤n∧Eng.OwnD.m (x8.2.2.2.1)≤Eng.OwnD.cap (x8.2.2.2.1)∧Eng.OwnD.c (x8.2.2.2.1)≤Eng.OwnD.cap (x8.2.2.2.1)∧(Eng.OwnD.z (x8.2.2.2.1)=true→Eng.OwnD.ez (x8.2.2.2.1)=true)∧(0:Int)≤(x8.2.2.2.2).1∧(x8.2.2.2.2).1≤(20032:Int)*(↑x8.1:Int))∧n - x8.1 < n - x2.1)))))∧(decide ((↑x2.1:Int) < v12)=false→∀ (t11:Bool), t11=true→t11=true)))) (by kernel_rfl) ?_
  try simp only [eq_self, true_and, and_true, Nat.le_refl, implies_true, forall_const, Bool.false_eq_true, Bool.true_eq_false, reduceCtorEq, false_imp_iff, true_imp_iff, Int.toNat_zero, Int.toNat_natCast, Nat.zero_lt_one, Int.le_refl, allGet]
  obtain ⟨⟨r1, r2, r3⟩, r4, ⟨r5, r6, r7⟩, _⟩ := hR
  dsimp only at r1 r2 r3 r4 r5 r6 r7
  intro v1 e1 v2 e2 t1 f1 t2 f2 t3 f3
  have h3 : t3 = false → (0 < n ∧ n ≤ 4) ∧ 1 ≤ d ∧ d ≤ 4 := fun q => by
    obtain ⟨q2, q3⟩ := or_f f3 q
    obtain ⟨q1, q2⟩ := or_f f2 q2
    obtain ⟨q0, q1⟩ := or_f f1 q1
    have q0 : ¬ v1 = 0 := by simpa using q0
    have := of_decide_eq_false q1
    have := of_decide_eq_false q2
    have := of_decide_eq_false q3
    omega
  refine ⟨fun q => by have := h3 q; omega, fun q => (h3 q).1.1, fun v3 e3 t4 f4 => ?_⟩
  have h4 : t4 = false → t3 = false ∧ d ≤ (f 0).length := fun q => by
    obtain ⟨q2, q3⟩ := or_f f4 q
    have := of_decide_eq_false q3
    exact ⟨q2, by omega⟩
  refine ⟨fun q => by have := h3 (h4 q).1; omega, fun q => (h3 (h4 q).1).1.1, fun v4 e4 v5 e5 t5 f5 v6 e6 t6 f6 v7 e7 t7 f7 => ⟨fun _ t h => h, fun q7 => ?_⟩⟩
  obtain ⟨q6, q7'⟩ := or_f f7 q7
  obtain ⟨q5, q6'⟩ := or_f f6 q6
  obtain ⟨q4, q5'⟩ := or_f f5 q5
  obtain ⟨q3, hd3⟩ := h4 q4
  obtain ⟨⟨hn1, hn4⟩, hd1, hd2⟩ := h3 q3
  rw [w64_id (by omega) (by omega)] at e5
  have hd4 := of_decide_eq_false q5'
  have hpn := of_decide_eq_false q7'
  have hp0 : ¬ v6 = 0 := by simpa using q6'
  have hpn1 : 1 ≤ pn ∧ pn ≤ 100 := by omega
  clear q3 q4 q5 q5' q6 q6' q7 q7' h3 h4 f1 f2 f3 f4 f5 f6 f7
  have hd : posB (f 0).length d = true := posB_iff.2 ⟨hd1, hd2, hd3, by omega⟩
  refine ⟨by omega, hn1, fun v8 e8 => ?_⟩
  subst e8
  refine ⟨hd, fun y1 v9 e9 v10 e10 v11 e11 t9 f9 t10 f10 => ?_⟩
  rw [if_pos hd] at e10 e11
  have q9 : t9 = false := by rw [f9, e9, e11]; rfl
  have q10 : t10 = false := by rw [f10, q9, decide_eq_false (by omega)]; rfl
  refine ⟨fun h => (by rw [q10] at h; cases h), fun _ => ?_⟩
  clear f9 f10 q9 q10
  refine ⟨⟨(0, 0, false, ⟨0, 0, 0, 0, true, 0, 0, true, fun _ => 0⟩, 0, 0, .nilFunc), rfl, ⟨SVeq.of_eq rfl, SVeq.of_eq rfl, SVeq.of_eq rfl, SVeq.of_eq rfl, SVeq.of_eq rfl⟩, ⟨nil_eqv rfl rfl rfl, rfl, rfl, SVeq.of_eq rfl⟩, ⟨rfl, rfl⟩, ⟨rfl, rfl, rfl⟩, Nat.zero_le _, Nat.le_refl _, Nat.le_refl _, fun h => h, Int.le_refl _, Int.le_refl _⟩, ?_⟩
  rintro ⟨i, tk, lk, l, pl, wg, gv⟩ ⟨i1, i2, i3, i4, i5, i6⟩ v12 e12
  dsimp only at i1 i2 i3 i4 i5 i6 ⊢
  subst e12
  refine ⟨fun hlt => ?_, fun _ t h => h⟩
  have hlt := of_decide_eq_true hlt
  have hin : i < n := by omega
  refine ⟨by omega, by omega, hin, by omega, by omega, fun s1 g1 s2 g2 v13 g3 v14 g4 t11 g5 => ?_⟩
  have hown : s1.length = (f 0).length := by rw [g1, filS_len]; omega
  have hd1' : posB s1.length d = true := by rw [hown]; exact hd
  have g2 : s2 = snOf s1 d := g2.trans (snOf_eq hd1')
  obtain ⟨l1, l2, l3⟩ := snOf_len hd1'
  have g3 : v13 = 0 := by rw [g3, sendE, if_pos hd1']
  have hv10 : v10 = (s2.length : Nat) := by rw [e10, g2, l1]; omega
  have q11 : t11 = false := by rw [g5, g3, g4, hv10]; simp
  refine ⟨fun h => (by rw [q11] at h; cases h), fun _ b2 hb2 hb2' => ⟨⟨(0, sF s2), rfl, ⟨hb2, fun k hk => rfl⟩, Nat.zero_le _, FlI_zero⟩, ?_⟩⟩
  clear g5 q11 g4 g3 e9 e10 e11
  have hs3 : 44 ≤ s2.length := by rw [g2, l1]; omega
  have hs2 : 32 ≤ s2.length := by omega
  have hs2' : s2.length ≤ 20032 := by rw [g2, l1]; omega
  rintro ⟨k, g⟩ ⟨k1, k2⟩
  dsimp only at k1 k2 ⊢
  have k2 : FlI s2 k g := k2
  have hg01 : ∀ j, j < s2.length → g j = 0 ∨ g j = 1 := fun j hj => by
    subst g2
    exact g_01 l2 k2 hj
  refine ⟨fun hk => ?_, fun hk => ⟨⟨0, rfl, rfl, Nat.zero_le _⟩, fun b3 hb3 => ⟨fun hlt3 => ?_, fun hge3 s3 g6 => ?_⟩⟩⟩
  · have hk := of_decide_eq_true hk
    refine fun v15 h15 v16 h16 v17 h17 => ⟨by omega, fun v18 h18 => ?_⟩
    rw [w64_id (by omega) (by omega)] at h15
    rw [w64_id (by omega) (by omega)] at h16
    have h18' : 0 ≤ v18 ∧ v18 < pn := by
      rw [h18, h17, Int.tmod_eq_emod_of_nonneg (by omega)]
      exact ⟨Int.emod_nonneg _ (by omega), Int.emod_lt_of_pos _ (by omega)⟩
    refine ⟨h18'.1, h18'.2, by omega, fun v19 h19 => ⟨by decide, fun v20 h20 => ?_⟩⟩
    have hu : 0 ≤ pf v18.toNat ∧ pf v18.toNat ≤ 65535 := u16_in (r7 v18.toNat (by omega))
    rw [w64_id (by omega) (by omega)] at h19
    refine ⟨fun hk2 v21 h21 => ?_, fun hk2 => ?_⟩
    · have hk2 := of_decide_eq_true hk2
      rw [hv10, w64_id (by omega) (by omega)] at h21
      refine ⟨by omega, fun v22 h22 v23 h23 => ?_⟩
      have h22' : 0 ≤ v22 ∧ v22 < v21 := by
        rw [h22, Int.tmod_eq_emod_of_nonneg (by omega)]
        exact ⟨Int.emod_nonneg _ (by omega), Int.emod_lt_of_pos _ (by omega)⟩
      rw [w64_id (by omega) (by omega)] at h23
      refine ⟨by omega, by omega, by omega, fun v24 h24 => ⟨by omega, by omega, by omega, fun v25 h25 => ⟨(k + 1, fun j => if j = v23.toNat then 1 - g v23.toNat else g j), h25.trans (l_succ (by omega)), ⟨hb2, fun j hj => ?_⟩, ⟨by dsimp only; omega, FlI_step k2 hs2 (fun q => by omega) (fun _ => ⟨by omega, (by show v23.toNat < s2.length; omega)⟩)⟩, by dsimp only; omega⟩⟩⟩
      rw [h24]
      dsimp only
      by_cases q : j = v23.toNat
      · rw [if_pos q, if_pos q]
        rcases hg01 v23.toNat (by omega) with h | h <;> rw [h] <;> decide
      · rw [if_neg q, if_neg q]
    · have hk2 := of_decide_eq_false hk2
      have h20' : 0 ≤ v20 ∧ v20 < 32 := by
        rw [h20, Int.tmod_eq_emod_of_nonneg (by omega)]
        exact ⟨Int.emod_nonneg _ (by omega), Int.emod_lt_of_pos _ (by omega)⟩
      refine ⟨by omega, by omega, by omega, fun v24 h24 => ⟨by omega, by omega, by omega, fun v25 h25 => ⟨(k + 1, fun j => if j = v20.toNat then 1 - g v20.toNat else g j), h25.trans (l_succ (by omega)), ⟨hb2, fun j hj => ?_⟩, ⟨by dsimp only; omega, FlI_step k2 hs2 (fun q => by omega) (fun q => by omega)⟩, by dsimp only; omega⟩⟩⟩
      rw [h24]
      dsimp only
      by_cases q : j = v20.toNat
      · rw [if_pos q, if_pos q]
        rcases hg01 v20.toNat (by omega) with h | h <;> rw [h] <;> decide
      · rw [if_neg q, if_neg q]
  · have hlt3 := of_decide_eq_true hlt3
    have hle := dcn_le s2 g 32 b3
    have hb3 : b3 ≤ s2.length - 32 := hb3
    refine ⟨by omega, by omega, by omega, by omega, by omega, fun hne v16 h16 v17 h17 => ⟨b3 + 1, h17.trans (l_succ (by omega)), ?_, by show b3 + 1 ≤ s2.length - 32; omega, by show s2.length - 32 - (b3 + 1) < s2.length - 32 - b3; omega⟩, fun heq v17 h17 => ⟨b3 + 1, h17.trans (l_succ (by omega)), ?_, by show b3 + 1 ≤ s2.length - 32; omega, by show s2.length - 32 - (b3 + 1) < s2.length - 32 - b3; omega⟩⟩
    · have hne : ¬ g (32 + b3) = sF s2 (32 + b3) := by simpa [sF] using hne
      have h16 : v16 = IntKind.i64.wrap ((dcn s2 g 32 b3 : Nat) + 1) := h16
      rw [h16, w64_id (by omega) (by omega)]
      show _ = ((dcn s2 g 32 (b3 + 1) : Nat) : Int)
      rw [dcn, if_neg hne]
      omega
    · have heq : g (32 + b3) = sF s2 (32 + b3) := by simpa [sF] using heq
      show ((dcn s2 g 32 b3 : Nat) : Int) = ((dcn s2 g 32 (b3 + 1) : Nat) : Int)
      rw [dcn, if_pos heq]
      rfl
  · have hge3 := of_decide_eq_false hge3
    have hb3 : b3 ≤ s2.length - 32 := hb3
    have eb : b3 = s2.length - 32 := by omega
    have hl3 : s3.length = s2.length := by rw [g6, bofl_len]
    have k2' : FlI (snOf s1 d) k g := g2 ▸ k2
    have hrc : ∀ (x : RcD) (r : RowD Int), r.f = Mk.softF s3 → r.n = s3.length → chOk x.ch s1.length d → Mk.FD.ok x.fin.fd → x.fin.fd.l.n = 0 → x.fin.fd.op = false → x.fin.fd.ms = 0 → x.fin.fd.len = 16 * ((s1.length : Int) + 8 * d) + 12 → x.fin.fd.pl ≤ 1000000000000 → rcPre s1 d x r := fun x r a1 a2 => rc_ready hd1' k1 k2' (by rw [a1, g6, g2]) (by rw [a2, hl3, g2])
    have hli : Mk.listB s3 = true := by
      rw [g6, g2]
      exact list_g l2 k2'
    refine ⟨hli, by omega, by omega, fun y2 hy2 => ⟨⟨s1, d, hd1', hrc _ _ rfl rfl ⟨by show ((f 0).length : Int) = _; rw [hown], rfl, rfl⟩ ⟨⟨Nat.zero_le _, i2, Nat.zero_le _, i3⟩, i4, i5, by show pl + ((0 : Nat) : Int) ≤ _; omega, Int.le_refl _, of_decide_eq_true rfl⟩ rfl rfl rfl (by show 16 * (((f 0).length : Int) + 8 * d) + 12 = _; rw [hown]) (by show pl ≤ _; omega)⟩, fun y3 hy3 v18 h18 v19 h19 t12 h12 => ?_⟩⟩
    obtain ⟨⟨⟨m1, m2, m3, m4⟩, m5⟩, p1, p2⟩ := hy3
    have hu0 := fun hq => rc_uniq hd1' p1 hq p2
    have hu := hu0 (hrc _ _ rfl rfl ⟨by show ((f 0).length : Int) = _; rw [hown], rfl, rfl⟩ ⟨⟨Nat.zero_le _, i2, Nat.zero_le _, i3⟩, i4, i5, by show pl + ((0 : Nat) : Int) ≤ _; omega, Int.le_refl _, of_decide_eq_true rfl⟩ rfl rfl rfl (by show 16 * (((f 0).length : Int) + 8 * d) + 12 = _; rw [hown]) (by show pl ≤ _; omega))
    have q12 : t12 = false := by rw [h12, h18, h19]; rfl
    have hfl : flN (bitsOf (mOf s1 d)) (fun k => Mk.softF s3 (32 + k)) (16 * (mOf s1 d).length + 12) = dcn s2 g 32 b3 := by
      have := fl_bits hd1' k2'
      rw [← g2] at this
      rw [g6, eb]
      exact this
    have q13 : ∀ t13 : Bool, (t13 = if t12 = true then true else !(y3.2.1 == s1 && (false == false && ((0 : Int) == 0 && (((flN (bitsOf (mOf y3.2.1 y3.2.2)) (fun k => Mk.softF s3 (32 + k)) (16 * (mOf y3.2.1 y3.2.2).length + 12) : Nat) : Int) == ((dcn s2 g 32 b3 : Nat) : Int) && true))))) → t13 = false := fun t13 h => by
      rw [h, q12, hu.1, hu.2, hfl]
      simp
    refine ⟨fun _ => by decide, fun t13 h13 => ⟨fun h => (by rw [q13 t13 h13] at h; cases h), fun _ v20 h20 => ⟨(i + 1, y3.1.1, true, y3.1.2.1, pl + s3.length, (Mk.wrA (Mk.softF s3) 0 : Nat), y3.1.2.2.1), h20.trans (l_succ (by omega)), ⟨SVeq.of_eq rfl, SVeq.of_eq rfl, SVeq.of_eq rfl, SVeq.of_eq rfl, SVeq.of_eq rfl⟩, ⟨⟨rfl, rfl, m1, rfl, rfl⟩, rfl, rfl, SVeq.of_eq rfl⟩, ⟨rfl, rfl⟩, ⟨⟨rfl, rfl, rfl, Nat.le_refl _, m2, Nat.le_refl _⟩, fun _ _ => rfl⟩, ⟨by dsimp only; omega, m2, m3, m4, by dsimp only; omega, by dsimp only; omega⟩, by dsimp only; omega⟩⟩⟩
/-! ### the arguments, opened -/
def plainTy (P : Program) (t : TypeId) : Bool := match P.underlying t with
  | some (.struct _) => false
  | some (.array _ _) => false
  | _ => true
theorem notStruct {P : Program} {t : TypeId} (h : plainTy P t = true) : ∀ fs, P.underlying t ≠ some (.struct fs) := by
  intro fs hh; unfold plainTy at h; rw [hh] at h; cases h
theorem notArray {P : Program} {t : TypeId} (h : plainTy P t = true) : ∀ n e, P.underlying t ≠ some (.array n e) := by
  intro n e hh; unfold plainTy at h; rw [hh] at h; cases h
section
variable {H : Type} {enc : TypeId × Value → H}
theorem corTop (W : World) (base : Nat) : OpTop enc Tryz.prog W base Tryz.f5.params.toList aCor CorIn :=
  .cons (.row (e := 9) (by kernel_rfl) (.str (by kernel_rfl) (by kernel_rfl)) (by kernel_rfl) (by kernel_rfl)) (.inr ⟨notStruct (by kernel_rfl), notArray (by kernel_rfl), rfl, fun _ _ => rfl⟩)
    (.cons (.elt (ct := [3]) (.int (by kernel_rfl) (by kernel_rfl)) (by kernel_rfl)) (.inr ⟨notStruct (by kernel_rfl), notArray (by kernel_rfl), rfl, fun _ _ => rfl⟩)
    (.cons (.row (e := 43) (by kernel_rfl) (.int (by kernel_rfl) (by kernel_rfl)) (by kernel_rfl) (by kernel_rfl)) (.inr ⟨notStruct (by kernel_rfl), notArray (by kernel_rfl), rfl, fun _ _ => rfl⟩) .nil))
end
end Vt
