/-
  OWN WORK. Galois: the table, quotients, powers, logarithms.
-/
import Derived.Test.YtnibcchhhebfaaaGreatDoorG1
namespace Galois
open Go Go.Proofs Eng
set_option linter.unusedVariables false
set_option linter.unusedSimpArgs false
set_option maxHeartbeats 4000000
set_option maxRecDepth 100000

def EM : Env := (E0.addP 151 mul)
theorem EM_ok : EnvOk Tryz.prog EM := (E0_ok.addP mul_ok)
def powT (i k : Nat) : Nat := if k < i then gexp k else 0
def logT (i b : Nat) : Nat := if b ≠ 0 ∧ glog b < i then glog b else 0
abbrev fieldE (g : Nat) (i b : Nat) : Ent := ⟨g, b, 0, 511, 1, fun _ => .agg [.arr 255 1 fun k => .int .u8 (powT i k : Nat), .arr 256 1 fun k => .int .i64 (logT i k : Nat)], true, true, 1, 205, false, none⟩
def made := ecC .nil (fun _ => []) (fun _ (_ : Nat) => True) (fun _ y => .ptr 0 y 0 [.elt 0 511]) (fun _ y => [fieldE 0 255 y]) 1
theorem arr_sveq {n wd : Nat} {f g : Nat → SV} (h : ∀ k, k < n → f k = g k) : SVeq (.arr n wd f) (.arr n wd g) := by
  have e : ((List.range n).flatMap fun i => (f i).flat) = (List.range n).flatMap fun i => (g i).flat := by
    rw [List.flatMap_def, List.flatMap_def]
    congr 1
    exact List.map_congr_left fun i hi => by rw [h i (List.mem_range.1 hi)]
  refine ⟨by simp only [SV.den, e], by simp only [SV.flat, e], rfl, fun hw i hi => ?_⟩
  rw [← h i hi]
  exact hw i hi
theorem made_ok : EcOk Tryz.prog 161 made := by
  refine ecC_run (fun _ => EM_ok) Tryz.func161 rfl (by kernel_rfl) []
    (fun x => [.loop ⟨4, Nat × Nat, [1, 2, 6], fun y => [.ptr 0 y.2 0 [.elt 0 511], .int .u8 (gexp y.1 : Nat), .int .i64 (y.1 : Nat)], [0], fun y => [fieldE 0 y.1 y.2], fun y => y.1 ≤ 255, fun y => 255 - y.1⟩,
      .draw 6 (.take 0 (.take 1 (.take 2 (.take 3 (.take 4 (.take 5 (.take 6 (.take 7 (.take 8 (.take 10 (.take 11 (.br 9 (.take 12 (.br 13 .fin .stop)) .stop)))))))))))) [1]]) (fun _ => Nat.le_of_ble_eq_true rfl) (fun () hp hw => ?_)
  refine vc_of (q :=
      ∀ (b1:Nat), (∃ (x1:Nat × Nat), (0=0∧b1=x1.2∧0=0)∧(1:Int)=(↑(gexp x1.1):Int)∧(0:Int)=(↑x1.1:Int)∧((b1=x1.2∧0=0∧false=false∧1≤1∧1≤1∧1≤1)∧SVeq (SV.arr 255 1 fun (x:Nat) ↦ SV.int IntKind.u8 (0:Int)) (SV.arr 255 1 fun (k:Nat) ↦ SV.int IntKind.u8 (↑(powT x1.1 k):Int))∧SVeq (SV.arr 256 1 fun (x:Nat) ↦ SV.int IntKind.i64 (0:Int)) (SV.arr 256 1 fun (k:Nat) ↦ SV.int IntKind.i64 (↑(logT x1.1 k):Int)))∧Nat.le
      x1.1 255)∧∀ (x2:Nat × Nat), x2.1≤255→(decide ((↑x2.1:Int) < (255:Int))=true→(0:Int)≤(↑x2.1:Int)∧(↑x2.1:Int) < (↑(255:Nat):Int)∧((x2.2=x2.2∧0=0)∧Int.toNat (↑x2.1:Int) < 255∧(0:Int)≤(↑(gexp x2.1):Int)∧(↑(gexp x2.1):Int) < (↑(256:Nat):Int)∧((x2.2=x2.2∧0=0)∧Int.toNat (↑(gexp x2.1):Int) < 256∧((0:Int)≤(↑(gexp x2.1):Int)∧(↑(gexp x2.1):Int)≤(255:Int))∧((0:Int)≤(2:Int)∧(2:Int)≤(255:Int))∧∀ (v1:Int),
      v1=mulI (↑(gexp x2.1):Int) (2:Int)→∀ (v2:Int), v2=IntKind.i64.wrap ((↑x2.1:Int)+(1:Int))→∃ (x3:Nat × Nat), (0=0∧x2.2=x3.2∧0=0)∧v1=(↑(gexp x3.1):Int)∧v2=(↑x3.1:Int)∧((x2.2=x3.2∧0=0∧false=false∧1≤1∧1≤1∧1≤1)∧SVeq (SV.arr 255 1 fun (k:Nat) ↦ SV.int IntKind.u8 (if k=Int.toNat (↑x2.1:Int) then (↑(gexp x2.1):Int) else (↑(powT x2.1 k):Int))) (SV.arr 255 1 fun (k:Nat) ↦ SV.int IntKind.u8 (↑(powT x3.1
      k):Int))∧SVeq (SV.arr 256 1 fun (k:Nat) ↦ SV.int IntKind.i64 (if k=Int.toNat (↑(gexp x2.1):Int) then (↑x2.1:Int) else (↑(logT x2.1 k):Int))) (SV.arr 256 1 fun (k:Nat) ↦ SV.int IntKind.i64 (↑(logT x3.1 k):Int)))∧x3.1≤255∧255 - x3.1 < 255 - x2.1)∧True)∧True)∧(decide ((↑x2.1:Int) < (255:Int))=false→∃ (x3:Nat), (0=0∧x2.2=x3∧0=0)∧((x2.2=x3∧0=0∧false=false∧1≤1∧1≤1∧1≤1)∧SVeq (SV.arr 255 1 fun (k:Nat) ↦
      SV.int IntKind.u8 (↑(powT x2.1 k):Int)) (SV.arr 255 1 fun (k:Nat) ↦ SV.int IntKind.u8 (↑(powT 255 k):Int))∧SVeq (SV.arr 256 1 fun (k:Nat) ↦ SV.int IntKind.i64 (↑(logT x2.1 k):Int)) (SV.arr 256 1 fun (k:Nat) ↦ SV.int IntKind.i64 (↑(logT 255 k):Int)))∧True)) (by kernel_rfl) ?_
  try simp only [eq_self, true_and, and_true, Nat.le_refl, implies_true, forall_const, Bool.false_eq_true, Bool.true_eq_false, reduceCtorEq, false_imp_iff, true_imp_iff, Int.toNat_zero, Int.toNat_natCast, Nat.zero_lt_one, Int.le_refl, allGet]
  intro b1
  refine ⟨⟨(0, b1), rfl, rfl, rfl, ⟨rfl, arr_sveq fun k _ => rfl, arr_sveq fun k _ => ?_⟩, Nat.le_of_ble_eq_true rfl⟩, ?_⟩
  · show SV.int IntKind.i64 0 = .int .i64 ((logT 0 k : Nat) : Int)
    unfold logT
    rw [if_neg (fun h => absurd h.2 (Nat.not_lt_zero _))]
    rfl
  rintro ⟨i, b⟩ hi
  dsimp only at hi ⊢
  have hl := gexp_lt i
  refine ⟨fun hlt => ⟨by omega, by have := of_decide_eq_true hlt; omega, by have := of_decide_eq_true hlt; omega, by omega, by omega, hl, ⟨by omega, by omega⟩, ⟨by decide, by decide⟩, fun v1 h1 v2 h2 => ?_⟩, fun hge => ?_⟩
  · have hlt : i < 255 := by have := of_decide_eq_true hlt; omega
    refine ⟨(i + 1, b), rfl, ?_, ?_, ⟨rfl, arr_sveq fun k hk => ?_, arr_sveq fun k hk => ?_⟩, by show i + 1 ≤ 255; omega, by show 255 - (i + 1) < 255 - i; omega⟩
    · rw [h1]; rfl
    · rw [h2]; exact l_succ (by omega)
    · dsimp only
      congr 1
      unfold powT
      by_cases e : k = i
      · subst e; rw [if_pos rfl, if_pos (by omega)]
      · rw [if_neg e]
        by_cases h : k < i
        · rw [if_pos h, if_pos (by omega)]
        · rw [if_neg h, if_neg (by omega)]
    · dsimp only
      congr 1
      unfold logT
      by_cases e : k = gexp i
      · subst e
        rw [if_pos rfl, glog_gexp hlt, if_pos ⟨gexp_ne i, by omega⟩]
      · rw [if_neg e]
        by_cases h : k ≠ 0 ∧ glog k < i
        · rw [if_pos h, if_pos ⟨h.1, by omega⟩]
        · rw [if_neg h, if_neg]
          rintro ⟨h1, h2⟩
          have h3 : glog k = i := by
            apply Decidable.byContradiction
            intro h3
            exact h ⟨h1, by omega⟩
          exact e (by rw [← h3, gexp_glog h1 hk])
  · obtain rfl : i = 255 := by have := of_decide_eq_false hge; omega
    exact ⟨b, rfl, rfl, arr_sveq fun _ _ => rfl, arr_sveq fun _ _ => rfl⟩
theorem pow255 {k : Nat} (h : k < 255) : powT 255 k = gexp k := if_pos h
theorem log255 {b : Nat} (h0 : b ≠ 0) (h : b < 256) : logT 255 b = glog b := if_pos ⟨h0, glog_lt h0 h⟩

def EN : Env := EM.addE 161 made
theorem EN_ok : EnvOk Tryz.prog EN := EM_ok.addE made_ok
/-! ### quotients -/
def divI (a b : Int) : Int := if b = 0 then 0 else (gdiv a.toNat b.toNat : Nat)
def errB (b : Bool) : Int := if b then 2 else 0
def div := ecC aMul (fun x => [isB x.1, isB x.2.1]) (fun _ (_ : Unit) => True) (fun x _ => .tup [.int .u8 (divI x.1 x.2.1), .int .i64 (errB (x.2.1 == 0))]) (fun _ _ => []) 0
theorem div_ok : EcOk Tryz.prog 139 div := by
  refine ecC_run (fun _ => EN_ok) Tryz.func139 rfl (by kernel_rfl) [] (fun x => []) (fun _ => Nat.le_of_ble_eq_true rfl) (fun ⟨a, b, ()⟩ hp hw => ?_)
  refine vc_of (q :=
      ((b==(0:Int))=true→∃ (x1:Unit), ((0:Int)=divI a b∧(2:Int)=errB (b==(0:Int)))∧True)∧((b==(0:Int))=false→((a==(0:Int))=true→∃ (x2:Unit), ((0:Int)=divI a b∧(0:Int)=errB (b==(0:Int)))∧True)∧((a==(0:Int))=false→∀ (x'1:Unit), x'1=()→∀ (b1:Nat), True→(0:Int)≤a∧a < (↑(256:Nat):Int)∧(b1=b1∧0=0)∧Int.toNat a < 256∧(0:Int)≤b∧b < (↑(256:Nat):Int)∧(b1=b1∧0=0)∧Int.toNat b < 256∧∀ (v1:Int), v1=IntKind.i64.wrap
      ((↑(logT 255 (Int.toNat a)):Int) - (↑(logT 255 (Int.toNat b)):Int))→∀ (v2:Int), v2=IntKind.i64.wrap (v1+(255:Int))→(255:Int)≠(0:Int)∧∀ (v3:Int), v3=Int.tmod v2 (255:Int)→0≤v3∧v3 < (↑(255:Nat):Int)∧(b1=b1∧0=0)∧Int.toNat v3 < 255∧∃ (x3:Unit), ((↑(powT 255 (Int.toNat v3)):Int)=divI a b∧(0:Int)=errB (b==(0:Int)))∧True))) (by kernel_rfl) ?_
  try simp only [eq_self, true_and, and_true, Nat.le_refl, implies_true, forall_const, Bool.false_eq_true, Bool.true_eq_false, reduceCtorEq, false_imp_iff, true_imp_iff, Int.toNat_zero, Int.toNat_natCast, Nat.zero_lt_one, Int.le_refl, allGet]
  obtain ⟨⟨a0, a1⟩, ⟨b0, b1⟩, _⟩ := hp
  dsimp only at a0 a1 b0 b1
  refine ⟨fun h => ?_, fun h => ⟨fun h2 => ?_, fun h2 => ⟨a0, by omega, by omega, b0, by omega, by omega, fun v1 h3 v2 h4 => ⟨by decide, fun v3 h5 => ?_⟩⟩⟩⟩
  · obtain rfl : b = 0 := by simpa using h
    exact ⟨(), rfl, rfl⟩
  · obtain rfl : a = 0 := by simpa using h2
    have hb : b ≠ 0 := by simpa using h
    refine ⟨(), ?_, by rw [h]; rfl⟩
    unfold divI gdiv
    rw [if_neg hb]
    rfl
  · have hb : b ≠ 0 := by simpa using h
    have ha : a ≠ 0 := by simpa using h2
    have l1 := glog_lt (b := a.toNat) (by omega) (by omega)
    have l2 := glog_lt (b := b.toNat) (by omega) (by omega)
    rw [log255 (by omega) (by omega), log255 (by omega) (by omega), w64_id (by omega) (by omega)] at h3
    subst h3
    rw [w64_id (by omega) (by omega)] at h4
    subst h4
    have e : v3 = (((glog a.toNat + 255 - glog b.toNat) % 255 : Nat) : Int) := by
      rw [h5, Int.tmod_eq_emod_of_nonneg (by omega)]
      omega
    have hlt := Nat.mod_lt (glog a.toNat + 255 - glog b.toNat) (show 0 < 255 by decide)
    have hv : v3.toNat = (glog a.toNat + 255 - glog b.toNat) % 255 := by rw [e]; rfl
    refine ⟨by omega, by omega, by omega, (), ?_, by rw [h]; rfl⟩
    rw [hv, pow255 hlt]
    unfold divI gdiv
    rw [if_neg hb, show Nat.beq a.toNat 0 = false from by rw [← Bool.not_eq_true, Nat.beq_eq]; omega]
/-! ### powers -/
abbrev aPow : ArgL (Int × Int × Unit) := .cons (.elt (.int .u8)) (.cons (.elt (.int .i64)) .nil)
def expI (n : Int) : Nat := (n % 255).toNat
def powI (a n : Int) : Int := if a = 0 then (if n = 0 then 1 else 0) else (gpow a.toNat (expI n) : Nat)
def pow := ecC aPow (fun x => [isB x.1, -9223372036854775808 ≤ x.2.1 ∧ x.2.1 ≤ 9223372036854775807]) (fun _ (_ : Unit) => True) (fun x _ => .tup [.int .u8 (powI x.1 x.2.1), .int .i64 (errB (x.1 == 0 && decide (x.2.1 < 0)))]) (fun _ _ => []) 0
theorem pow_ok : EcOk Tryz.prog 162 pow := by
  refine ecC_run (fun _ => EN_ok) Tryz.func162 rfl (by kernel_rfl) [] (fun x => []) (fun _ => Nat.le_of_ble_eq_true rfl) (fun ⟨a, n, ()⟩ hp hw => ?_)
  refine vc_of (q :=
      ((n==(0:Int))=true→∃ (x1:Unit), ((1:Int)=powI a n∧(0:Int)=errB (a==(0:Int)&&decide (n < (0:Int))))∧True)∧((n==(0:Int))=false→∀ (t1:Bool), (t1=if (a==(0:Int))=true then decide (n < (0:Int)) else false)→(t1=true→∃ (x2:Unit), ((0:Int)=powI a n∧(2:Int)=errB (a==(0:Int)&&decide (n < (0:Int))))∧True)∧(t1=false→((a==(0:Int))=true→∃ (x3:Unit), ((0:Int)=powI a n∧(0:Int)=errB (a==(0:Int)&&decide (n <
      (0:Int))))∧True)∧((a==(0:Int))=false→∀ (x'1:Unit), x'1=()→∀ (b1:Nat), True→(255:Int)≠(0:Int)∧∀ (v1:Int), v1=Int.tmod n (255:Int)→∀ (v2:Int), v2=IntKind.i64.wrap (v1+(255:Int))→(255:Int)≠(0:Int)∧∀ (v3:Int), v3=Int.tmod v2 (255:Int)→(0:Int)≤a∧a < (↑(256:Nat):Int)∧(b1=b1∧0=0)∧Int.toNat a < 256∧∀ (v4:Int), v4=IntKind.i64.wrap ((↑(logT 255 (Int.toNat a)):Int)*v3)→(255:Int)≠(0:Int)∧∀ (v5:Int),
      v5=Int.tmod v4 (255:Int)→0≤v5∧v5 < (↑(255:Nat):Int)∧(b1=b1∧0=0)∧Int.toNat v5 < 255∧∃ (x4:Unit), ((↑(powT 255 (Int.toNat v5)):Int)=powI a n∧(0:Int)=errB (a==(0:Int)&&decide (n < (0:Int))))∧True)))) (by kernel_rfl) ?_
  try simp only [eq_self, true_and, and_true, Nat.le_refl, implies_true, forall_const, Bool.false_eq_true, Bool.true_eq_false, reduceCtorEq, false_imp_iff, true_imp_iff, Int.toNat_zero, Int.toNat_natCast, Nat.zero_lt_one, Int.le_refl, allGet]
  obtain ⟨⟨a0, a1⟩, ⟨n0, n1⟩, _⟩ := hp
  dsimp only at a0 a1 n0 n1
  have hr : n.tmod 255 < 255 := Int.tmod_lt_of_pos n (by decide)
  have hr' : -255 < n.tmod 255 := Int.lt_tmod_of_pos n (by decide)
  refine ⟨fun h => ⟨(), ?_, ?_⟩, fun h => fun t1 h1 => ⟨fun ht => ⟨(), ?_, ?_⟩, fun ht => ⟨fun h2 => ⟨(), ?_, ?_⟩, fun h2 => ⟨by decide, fun v1 h3 v2 h4 => ⟨by decide, fun v3 h5 => ⟨a0, by omega, by omega, fun v4 h6 => ⟨by decide, fun v5 h7 => ?_⟩⟩⟩⟩⟩⟩⟩
  · obtain rfl : n = 0 := by simpa using h
    unfold powI
    split <;> rfl
  · obtain rfl : n = 0 := by simpa using h
    simp [errB]
  · rw [ht] at h1
    by_cases ha : a = 0
    · subst ha
      have hn : n ≠ 0 := by simpa using h
      simp [powI, hn]
    · simp [ha] at h1
  · rw [ht] at h1
    by_cases ha : a = 0
    · subst ha
      simp at h1
      simp [errB, h1]
    · simp [ha] at h1
  · have hn : n ≠ 0 := by simpa using h
    have ha : a = 0 := by simpa using h2
    simp [powI, hn, ha]
  · have ha : a = 0 := by simpa using h2
    rw [ht, ha] at h1
    simp at h1
    simp [errB, ha]
    omega
  · have ha : a ≠ 0 := by simpa using h2
    subst h3
    rw [w64_id (by omega) (by omega)] at h4
    subst h4
    rw [Int.tmod_eq_emod_of_nonneg (by omega)] at h5
    have e3 : v3 = ((expI n : Nat) : Int) := by
      rw [h5, expI, Int.toNat_of_nonneg (Int.emod_nonneg _ (by decide)), Int.tmod_eq_emod]
      split <;> omega
    have hk : expI n < 255 := by unfold expI; omega
    have hl := glog_lt (b := a.toNat) (by omega) (by omega)
    have hm : glog a.toNat * expI n ≤ 254 * 254 := Nat.mul_le_mul (by omega) (by omega)
    rw [log255 (by omega) (by omega), e3, w64_id (by rw [← Int.natCast_mul]; omega) (by rw [← Int.natCast_mul]; omega), ← Int.natCast_mul] at h6
    subst h6
    have e5 : v5 = ((glog a.toNat * expI n % 255 : Nat) : Int) := by
      rw [h7, Int.tmod_eq_emod_of_nonneg (by omega)]
      rfl
    have hlt := Nat.mod_lt (glog a.toNat * expI n) (show 0 < 255 by decide)
    have hv : v5.toNat = glog a.toNat * expI n % 255 := by rw [e5]; rfl
    refine ⟨by omega, by omega, by omega, (), ?_, by simp [errB, ha]⟩
    rw [hv, pow255 hlt, powI, if_neg ha, gpow_log (by omega) (by omega)]
/-! ### logarithms -/
end Galois
