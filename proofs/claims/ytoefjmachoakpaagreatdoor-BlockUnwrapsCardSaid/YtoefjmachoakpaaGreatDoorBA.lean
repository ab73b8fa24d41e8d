/-
  OWN WORK. Block: mended.
-/
import Derived.Test.YtoefjmachoakpaaGreatDoorB9
namespace Galois
open Go Go.Proofs Eng
set_option linter.unusedVariables false
set_option linter.unusedSimpArgs false
set_option maxHeartbeats 8000000
set_option maxRecDepth 100000

/-- The equations for the bytes at some places. -/
def mendM (b : List UInt8) (pl : Nat → Int) (n : Nat) : Mat := fun r c => if r < n then (if c < n then pwN ((r : Nat) * ((b.length : Int) - 1 - pl c)) else if c = n then syn0 b r else 0) else 0
theorem mendM_byte (b : List UInt8) (pl : Nat → Int) (n : Nat) : byteM (mendM b pl n) := fun r c => by
  unfold mendM
  split
  · split
    · exact pwN_lt _
    · split
      · exact syn0_lt _ _
      · omega
  · omega
theorem mend_mat (b : List UInt8) (pl : Nat → Int) {n : Nat} (he : n ≤ 8) : matD (fun k j => if k < n then ((mendM b pl n k j : Nat) : Int) else ((0 : Nat) : Int)) = mendM b pl n := by
  funext r c
  unfold matD
  have hb := mendM_byte b pl n r c
  by_cases hc : c < 9
  · rw [if_pos hc]
    dsimp only
    by_cases hr : r < n
    · rw [if_pos hr, Int.toNat_natCast, Nat.mod_eq_of_lt hb]
    · rw [if_neg hr]
      unfold mendM
      rw [if_neg hr]
      rfl
  · rw [if_neg hc]
    unfold mendM
    rw [if_neg (show ¬ c < n by omega), if_neg (show ¬ c = n by omega)]
    split <;> rfl
def mdGood (b : List UInt8) (pl : Nat → Int) (n : Nat) : Bool := goodM (mendM b pl n) n n
/-- The bytes, the first i places mended. -/
def fixF (b : List UInt8) (pl : Nat → Int) (n : Nat) : Nat → Nat → Nat
  | 0 => co b
  | i + 1 => fun k => if (k : Int) = pl i then Nat.xor (fixF b pl n i k) (solN (mendM b pl n) n i) else fixF b pl n i k
theorem solN_lt {A : Mat} (h : byteM A) (n k : Nat) : solN A n k < 256 := roundsM_byte h n n k n
theorem fixF_lt (b : List UInt8) (pl : Nat → Int) (n : Nat) : ∀ i k, fixF b pl n i k < 256
  | 0, k => co_lt b k
  | i + 1, k => by
    unfold fixF
    split
    · exact xor_lt (fixF_lt b pl n i k) (solN_lt (mendM_byte b pl n) n i)
    · exact fixF_lt b pl n i k
noncomputable def mdC (b : List UInt8) (pl : Nat → Int) (n : Nat) : List UInt8 := if mdGood b pl n then encL (ofN (fixF b pl n n) (b.length - 8)) else []
noncomputable def mdOk (b : List UInt8) (pl : Nat → Int) (n : Nat) : Bool := mdGood b pl n && (mdC b pl n == ofN (fixF b pl n n) b.length)
abbrev aMd : ArgL (List UInt8 × RowD Int × Unit) := .cons (.elt .str) (.cons (.row (.int .i64)) .nil)
def mdPre (x : List UInt8 × RowD Int × Unit) : List Prop := [9 ≤ x.1.length, x.1.length ≤ 231, x.2.1.n ≤ 8, ∀ k, k < x.2.1.n → 0 ≤ x.2.1.f k ∧ x.2.1.f k < x.1.length]
noncomputable def mended0 := ecC aMd mdPre (fun _ (_ : Unit) => True) (fun x _ => .tup [.str (mdC x.1 x.2.1.f x.2.1.n), .bool (mdOk x.1 x.2.1.f x.2.1.n)]) (fun _ _ => []) 0
noncomputable def mended := pcOf aMd mdPre (fun x => .tup [.str (mdC x.1 x.2.1.f x.2.1.n), .bool (mdOk x.1 x.2.1.f x.2.1.n)])
noncomputable def EBV : Env := EBU.addP 15 enc
theorem EBV_ok : EnvOk Tryz.prog EBV := EBU_ok.addP enc_ok
def mendA (b : List UInt8) (pl : Nat → Int) (n : Nat) : List An :=
  [.loopD 5 (fun fr H => ⟨5, Nat, [27], fun j => [.int .i64 (j : Nat)], [tagS (slotV fr 8)], fun j => [{ entG H (tagS (slotV fr 8)) with get := fun r => .arr 9 1 fun c => .int .u8 (if r < j then (mendM b pl n r c : Nat) else (0 : Nat)) }], fun j => j ≤ n, fun j => n - j⟩),
   .loopD 8 (fun fr H => ⟨8, Nat, [32], fun i => [.int .i64 (i : Nat)], [tagS (slotV fr 8)], fun i => [{ entG H (tagS (slotV fr 8)) with get := fun r => .arr 9 1 fun c => .int .u8 (if r < (intOf (slotV fr 27)).toNat ∨ (r = (intOf (slotV fr 27)).toNat ∧ c < i) then (mendM b pl n r c : Nat) else (0 : Nat)) }], fun i => i ≤ n, fun i => n - i⟩),
   .draw 10 (.take 0 (.take 1 (.take 2 (.take 3 (.take 4 (.take 5 (.take 6 (.take 7 (.take 8 (.take 9 (.take 10 (.take 11 (.take 12 (.br 13 .fin .stop)))))))))))))) [8],
   .draw 12 (.take 0 (.take 1 (.take 2 (.take 3 (.take 4 (.take 6 (.br 5 (.take 7 (.br 8 .fin .stop)) .stop))))))) [8],
   .loopD 19 (fun fr H => ⟨19, Nat, [71], fun i => [.int .i64 (i : Nat)], [tagS (slotV fr 14)], fun i => [{ entG H (tagS (slotV fr 14)) with get := fun k => .int .u8 (fixF b pl n i k : Nat) }], fun i => i ≤ n, fun i => n - i⟩),
   .draw 21 (.take 0 (.take 1 (.take 2 (.take 4 (.take 5 (.take 6 (.take 7 (.br 3 (.take 8 (.take 9 (.br 10 .fin .stop))) .stop)))))))) [14],
   .draw 24 (.take 0 (.take 1 (.take 2 (.take 3 (.take 4 (.take 5 (.take 6 .fin))))))) []]
theorem mended0_ok : EcOk Tryz.prog 23 mended0 := by
  refine ecC_run (fun _ => EBV_ok) Tryz.func23 rfl (by kernel_rfl) [] (fun x => mendA x.1 x.2.1.f x.2.1.n) (fun _ => Nat.le_of_ble_eq_true rfl) (fun ⟨b, ⟨eb, eo, n, c, z, pl⟩, ()⟩ hp hw => ?_)
  obtain ⟨p1, p2, p3, p4, _⟩ := hp
  dsimp only at p1 p2 p3 p4
  have hn : n ≤ c ∧ c ≤ 9223372036854775807 := (hw _ (List.mem_cons_of_mem _ (List.mem_cons_self ..))).2
  refine vc_of (q :=
      List.length b ≤ 1000000 ∧ ∀ (s1 : List UInt8), s1 = revL b → ∀ (b1 : Nat), (b1 = b1 ∧ 0 = 0) ∧ ∀ (v1 : Int), v1 = (↑n : Int) → 0 ≤ v1 ∧ v1 ≤ v1 ∧ v1 * (↑(9 : Nat) : Int) ≤ (140737488355328 : Int) ∧ v1 ≤ 9223372036854775807 ∧ ∀ (b2 : Nat) (v2 : Int), v2 = (↑(Int.toNat v1) : Int) → (∃ (x1 : Nat), (0 : Int) = (↑x1 : Int) ∧ ((b2 = b2 ∧ 0 = 0 ∧ false = false ∧ Int.toNat v1 ≤ Int.toNat v1 ∧ Int.toNat v1
      ≤ Int.toNat v1 ∧ Int.toNat v1 ≤ Int.toNat v1) ∧ ∀ (i1 : Nat), i1 < Int.toNat v1 → SVeq (SV.arr 9 1 fun (x : Nat) ↦ SV.int IntKind.u8 (0 : Int)) (SV.arr 9 1 fun (c : Nat) ↦ SV.int IntKind.u8 (if i1 < x1 then (↑(mendM b pl n i1 c) : Int) else (↑(0 : Nat) : Int)))) ∧ Nat.le x1 n) ∧ ∀ (b3 : Nat), b3 ≤ n → (decide ((↑b3 : Int) < v2) = true → ∀ (v3 : Int), v3 = (↑n : Int) → (∃ (x2 : Nat), (0 : Int) =
      (↑x2 : Int) ∧ ((b2 = b2 ∧ 0 = 0 ∧ false = false ∧ Int.toNat v1 ≤ Int.toNat v1 ∧ Int.toNat v1 ≤ Int.toNat v1 ∧ Int.toNat v1 ≤ Int.toNat v1) ∧ ∀ (i2 : Nat), i2 < Int.toNat v1 → SVeq (SV.arr 9 1 fun (c : Nat) ↦ SV.int IntKind.u8 (if i2 < b3 then (↑(mendM b pl n i2 c) : Int) else (↑(0 : Nat) : Int))) (SV.arr 9 1 fun (c : Nat) ↦ SV.int IntKind.u8 (if i2 < Int.toNat (↑b3 : Int) ∨ i2 = Int.toNat (↑b3 :
      Int) ∧ c < x2 then (↑(mendM b pl n i2 c) : Int) else (↑(0 : Nat) : Int)))) ∧ Nat.le x2 n) ∧ ∀ (b4 : Nat), b4 ≤ n → (decide ((↑b4 : Int) < v3) = true → (0 : Int) ≤ (↑b4 : Int) ∧ (↑b4 : Int) < (↑n : Int) ∧ (eb = eb ∧ eo = eo) ∧ Int.toNat (↑b4 : Int) < n ∧ ∀ (v4 : Int), v4 = (↑(List.length b) : Int) → ∀ (v5 : Int), v5 = IntKind.i64.wrap (v4 - (1 : Int)) → ∀ (v6 : Int), v6 = IntKind.i64.wrap (v5 - pl
      (Int.toNat (↑b4 : Int))) → ∀ (v7 : Int), v7 = IntKind.i64.wrap ((↑b3 : Int) * v6) → ((-9223372036854775808 : Int) ≤ v7 ∧ v7 ≤ 9223372036854775807) ∧ ∀ (v8 : Int), v8 = powI (2 : Int) v7 → (0 : Int) ≤ (↑b3 : Int) ∧ (↑b3 : Int) < (↑(Int.toNat v1) : Int) ∧ (0 : Int) ≤ (↑b4 : Int) ∧ (↑b4 : Int) < (↑(9 : Nat) : Int) ∧ ((b2 = b2 ∧ 0 = 0) ∧ Int.toNat (↑b3 : Int) < Int.toNat v1 ∧ Int.toNat (↑b4 : Int) < 9
      ∧ ∀ (v9 : Int), v9 = IntKind.i64.wrap ((↑b4 : Int) + (1 : Int)) → ∃ (x3 : Nat), v9 = (↑x3 : Int) ∧ ((b2 = b2 ∧ 0 = 0 ∧ false = false ∧ Int.toNat v1 ≤ Int.toNat v1 ∧ Int.toNat v1 ≤ Int.toNat v1 ∧ Int.toNat v1 ≤ Int.toNat v1) ∧ ∀ (i3 : Nat), i3 < Int.toNat v1 → SVeq (SV.arr 9 1 fun (k : Nat) ↦ SV.int IntKind.u8 (if i3 = Int.toNat (↑b3 : Int) then if k = Int.toNat (↑b4 : Int) then v8 else if Int.toNat
      (↑b3 : Int) < Int.toNat (↑b3 : Int) ∨ Int.toNat (↑b3 : Int) = Int.toNat (↑b3 : Int) ∧ k < b4 then (↑(mendM b pl n (Int.toNat (↑b3 : Int)) k) : Int) else (↑(0 : Nat) : Int) else if i3 < Int.toNat (↑b3 : Int) ∨ i3 = Int.toNat (↑b3 : Int) ∧ k < b4 then (↑(mendM b pl n i3 k) : Int) else (↑(0 : Nat) : Int))) (SV.arr 9 1 fun (c : Nat) ↦ SV.int IntKind.u8 (if i3 < Int.toNat (↑b3 : Int) ∨ i3 = Int.toNat
      (↑b3 : Int) ∧ c < x3 then (↑(mendM b pl n i3 c) : Int) else (↑(0 : Nat) : Int)))) ∧ x3 ≤ n ∧ n - x3 < n - b4) ∧ True) ∧ (decide ((↑b4 : Int) < v3) = false → (0 : Int) ≤ (↑b3 : Int) ∧ (↑b3 : Int) < (↑(Int.toNat v1) : Int) ∧ ((b1 = b1 ∧ 0 = 0) ∧ ((-9223372036854775808 : Int) ≤ (↑b3 : Int) ∧ (↑b3 : Int) ≤ (9223372036854775807 : Int)) ∧ ∀ (v5 : Int), v5 = powI (2 : Int) (↑b3 : Int) → (0 ≤ v5 ∧ v5 ≤
      255) ∧ ∀ (v6 : Int), v6 = (↑(evalF s1 (Int.toNat v5)) : Int) → ∀ (v7 : Int), v7 = v6 → 0 ≤ v1 ∧ v1 < (↑(9 : Nat) : Int) ∧ ((b2 = b2 ∧ 0 = 0) ∧ Int.toNat (↑b3 : Int) < Int.toNat v1 ∧ Int.toNat v1 < 9 ∧ ∀ (v8 : Int), v8 = IntKind.i64.wrap ((↑b3 : Int) + (1 : Int)) → ∃ (x3 : Nat), v8 = (↑x3 : Int) ∧ ((b2 = b2 ∧ 0 = 0 ∧ false = false ∧ Int.toNat v1 ≤ Int.toNat v1 ∧ Int.toNat v1 ≤ Int.toNat v1 ∧
      Int.toNat v1 ≤ Int.toNat v1) ∧ ∀ (i3 : Nat), i3 < Int.toNat v1 → SVeq (SV.arr 9 1 fun (k : Nat) ↦ SV.int IntKind.u8 (if i3 = Int.toNat (↑b3 : Int) then if k = Int.toNat v1 then v7 else if Int.toNat (↑b3 : Int) < Int.toNat (↑b3 : Int) ∨ Int.toNat (↑b3 : Int) = Int.toNat (↑b3 : Int) ∧ k < b4 then (↑(mendM b pl n (Int.toNat (↑b3 : Int)) k) : Int) else (↑(0 : Nat) : Int) else if i3 < Int.toNat (↑b3 :
      Int) ∨ i3 = Int.toNat (↑b3 : Int) ∧ k < b4 then (↑(mendM b pl n i3 k) : Int) else (↑(0 : Nat) : Int))) (SV.arr 9 1 fun (c : Nat) ↦ SV.int IntKind.u8 (if i3 < x3 then (↑(mendM b pl n i3 c) : Int) else (↑(0 : Nat) : Int)))) ∧ x3 ≤ n ∧ n - x3 < n - b3) ∧ True) ∧ True)) ∧ (decide ((↑b3 : Int) < v2) = false → (b2 = b2 ∧ 0 = 0) ∧ (0 = 0 ∧ ∀ (k1 : Nat), k1 < Int.toNat v1 → true = true) ∧ ∀ (x'1 : Eng.OwnD
      (Nat → Int) × Unit), x'1 = (Eng.OwnD.mk b2 0 (Int.toNat v1) (Int.toNat v1) false (Int.toNat v1) (Int.toNat v1) false fun (k j : Nat) ↦ if k < b3 then (↑(mendM b pl n k j) : Int) else (↑(0 : Nat) : Int), ()) → Eng.OwnD.n (Prod.fst x'1) ≤ 8 ∧ Eng.OwnD.n (Prod.fst x'1) ≤ Eng.OwnD.m (Prod.fst x'1) ∧ Eng.OwnD.m (Prod.fst x'1) ≤ Eng.OwnD.cap (Prod.fst x'1) ∧ Eng.OwnD.z (Prod.fst x'1) = false ∧
      Eng.OwnD.ez (Prod.fst x'1) = false ∧ (∀ (b4 : Nat), b4 < Eng.OwnD.m (Prod.fst x'1) → ∀ (b5 : Nat), b5 < 9 → Eng.OwnD.f (Prod.fst x'1) b4 b5 = (↑(matD (Eng.OwnD.f (Prod.fst x'1)) b4 b5) : Int)) ∧ ∀ (y1 : Nat × Nat × Nat), solLen (Prod.fst x'1) ≤ y1.2.2 ∧ y1.2.2 ≤ 9223372036854775807 ∧ (solLen (Prod.fst x'1) = 0 → y1.2.2 = 0) → ∀ (t1 : Bool), t1 = goodD (Prod.fst x'1) → ((!t1) = true → ∃ (x2 : Unit),
      ([] = mdC b pl n ∧ false = mdOk b pl n) ∧ True) ∧ ((!t1) = false → ∀ (b5 b6 : Nat), List.length b ≤ b6 → b6 ≤ 9223372036854775807 → ∀ (v4 : Int), v4 = (↑n : Int) → (∃ (x3 : Nat), (0 : Int) = (↑x3 : Int) ∧ ((b5 = b5 ∧ 0 = 0 ∧ false = false ∧ List.length b ≤ List.length b ∧ List.length b ≤ b6 ∧ b6 ≤ b6) ∧ ∀ (i2 : Nat), i2 < List.length b → (↑(UInt8.toNat (List.getD b i2 0)) : Int) = (↑(fixF b pl n x3
      i2) : Int)) ∧ Nat.le x3 n) ∧ ∀ (b7 : Nat), b7 ≤ n → (decide ((↑b7 : Int) < v4) = true → (0 : Int) ≤ (↑b7 : Int) ∧ (↑b7 : Int) < (↑n : Int) ∧ (eb = eb ∧ eo = eo) ∧ Int.toNat (↑b7 : Int) < n ∧ (0 : Int) ≤ pl (Int.toNat (↑b7 : Int)) ∧ pl (Int.toNat (↑b7 : Int)) < (↑(List.length b) : Int) ∧ (0 : Int) ≤ (↑b7 : Int) ∧ (↑b7 : Int) < (↑(solLen (Prod.fst x'1)) : Int) ∧ (y1.1 = y1.1 ∧ y1.2.1 = y1.2.1) ∧
      Int.toNat (↑b7 : Int) < solLen (Prod.fst x'1) ∧ ((b5 = b5 ∧ 0 = 0) ∧ Int.toNat (pl (Int.toNat (↑b7 : Int))) < List.length b ∧ ∀ (v5 : Int), v5 = IntKind.u8.wrap (↑(BitVec.toNat (BitVec.ofInt (IntKind.u8.bits) (↑(fixF b pl n b7 (Int.toNat (pl (Int.toNat (↑b7 : Int))))) : Int) ^^^ BitVec.ofInt (IntKind.u8.bits) (↑(solN (matD (Eng.OwnD.f (Prod.fst x'1))) (solLen (Prod.fst x'1)) (Int.toNat (↑b7 :
      Int))) : Int))) : Int) → (0 : Int) ≤ pl (Int.toNat (↑b7 : Int)) ∧ pl (Int.toNat (↑b7 : Int)) < (↑(List.length b) : Int) ∧ ((b5 = b5 ∧ 0 = 0) ∧ Int.toNat (pl (Int.toNat (↑b7 : Int))) < List.length b ∧ ∀ (v6 : Int), v6 = IntKind.i64.wrap ((↑b7 : Int) + (1 : Int)) → ∃ (x4 : Nat), v6 = (↑x4 : Int) ∧ ((b5 = b5 ∧ 0 = 0 ∧ false = false ∧ List.length b ≤ List.length b ∧ List.length b ≤ b6 ∧ b6 ≤ b6) ∧ ∀
      (i3 : Nat), i3 < List.length b → (if i3 = Int.toNat (pl (Int.toNat (↑b7 : Int))) then v5 else (↑(fixF b pl n b7 i3) : Int)) = (↑(fixF b pl n x4 i3) : Int)) ∧ x4 ≤ n ∧ n - x4 < n - b7) ∧ True) ∧ True) ∧ (decide ((↑b7 : Int) < v4) = false → ∀ (v6 : Int), v6 = (↑(List.length b) : Int) → ∀ (v7 : Int), v7 = IntKind.i64.wrap (v6 - (8 : Int)) → 0 ≤ v7 ∧ v7 ≤ (↑b6 : Int) ∧ Int.toNat v7 ≤ List.length b ∧ (∀
      (k2 : Nat), k2 < Int.toNat v7 → true = true) ∧ (b5 = b5 ∧ 0 = 0) ∧ ∀ (s2 : List UInt8), s2 = Byt.of (fun (k : Nat) ↦ (↑(fixF b pl n b7 k) : Int)) (Int.toNat v7) → ∀ (s3 : List UInt8), s3 = encL s2 → ∀ (v8 : Int), v8 = encE s2 → List.length b ≤ List.length b ∧ (∀ (k3 : Nat), k3 < List.length b → true = true) ∧ (b5 = b5 ∧ 0 = 0) ∧ ∀ (s4 : List UInt8), s4 = Byt.of (fun (k : Nat) ↦ (↑(fixF b pl n b7 k)
      : Int)) (List.length b) → ∃ (x4 : Unit), (s3 = mdC b pl n ∧ (s3 == s4) = mdOk b pl n) ∧ True)))) (by kernel_rfl) ?_
  try simp only [eq_self, true_and, and_true, Nat.le_refl, implies_true, forall_const, Bool.false_eq_true, Bool.true_eq_false, reduceCtorEq, false_imp_iff, true_imp_iff, Int.toNat_zero, Int.toNat_natCast, Nat.zero_lt_one, Int.le_refl, allGet]
  refine ⟨by omega, fun s1 hs1 v1 hv1 => ?_⟩
  subst hv1
  simp only [Int.toNat_natCast]
  refine ⟨by omega, by omega, by omega, fun b2 v2 hv2 => ⟨⟨0, rfl, fun i hi => arr_eqv fun c hc => by rw [if_neg (Nat.not_lt_zero i)]; rfl, Nat.zero_le _⟩, fun j hj => ⟨fun hjn v3 hv3 => ?_, fun hjn => ?_⟩⟩⟩
  · subst hv2 hv3
    have hjn : j < n := by have := of_decide_eq_true hjn; omega
    refine ⟨⟨0, rfl, fun r hr => arr_eqv fun c hc => ?_, Nat.zero_le _⟩, fun i hi => ⟨fun hin => ?_, fun hin => ?_⟩⟩
    · by_cases q : r < j
      · rw [if_pos q, if_pos (.inl q)]
      · rw [if_neg q, if_neg (by omega)]
    · have hin : i < n := by have := of_decide_eq_true hin; omega
      obtain ⟨g1, g2⟩ := p4 i hin
      refine ⟨by omega, by omega, by omega, fun v4 hv4 v5 hv5 v6 hv6 v7 hv7 => ?_⟩
      have e5 : v5 = (b.length : Int) - 1 := by rw [hv5, hv4, w64_id (by omega) (by omega)]
      have e6 : v6 = (b.length : Int) - 1 - pl i := by rw [hv6, e5, w64_id (by omega) (by omega)]
      have h1 : (j : Int) * v6 ≤ 8 * 230 := Int.mul_le_mul (by omega) (by omega) (by omega) (by omega)
      have h0 : 0 ≤ (j : Int) * v6 := Int.mul_nonneg (by omega) (by omega)
      have e7 : v7 = (j : Int) * ((b.length : Int) - 1 - pl i) := by rw [hv7, w64_id (by omega) (by omega), e6]
      rw [e6] at h0 h1
      refine ⟨⟨by omega, by omega⟩, fun v8 hv8 => ⟨by omega, by omega, by omega, by omega, by omega, by omega, fun v9 hv9 => ⟨i + 1, hv9.trans (l_succ (by omega)), fun r hr => arr_eqv fun c hc => ?_, by omega, by omega⟩⟩⟩
      have e8 : v8 = ((pwN ((j : Nat) * ((b.length : Int) - 1 - pl i)) : Nat) : Int) := by rw [hv8, powI_eq, e7]
      by_cases q : r = j
      · rw [if_pos q]
        subst q
        by_cases q1 : c = i
        · rw [if_pos q1, if_pos (by first | exact .inr ⟨rfl, by omega⟩ | exact .inr (by omega) | omega), e8]
          subst q1
          unfold mendM
          rw [if_pos hjn, if_pos hin]
        · rw [if_neg q1]
          by_cases q2 : c < i
          · rw [if_pos (by first | exact .inr ⟨rfl, q2⟩ | exact .inr q2 | exact q2), if_pos (by first | exact .inr ⟨rfl, by omega⟩ | exact .inr (by omega) | omega)]
          · rw [if_neg (by omega), if_neg (by omega)]
      · rw [if_neg q]
        by_cases q1 : r < j
        · rw [if_pos (.inl q1), if_pos (.inl q1)]
        · rw [if_neg (by omega), if_neg (by omega)]
    · have hin : i = n := by have := of_decide_eq_false hin; omega
      refine ⟨by omega, by omega, ⟨by omega, by omega⟩, fun v5 hv5 => ?_⟩
      have hpl := pwN_lt (j : Nat)
      rw [powI_eq] at hv5
      refine ⟨⟨by omega, by omega⟩, fun v6 hv6 v7 hv7 => ⟨by omega, by omega, by omega, by omega, fun v8 hv8 => ⟨j + 1, hv8.trans (l_succ (by omega)), fun r hr => arr_eqv fun c hc => ?_, by omega, by omega⟩⟩⟩
      have e7 : v7 = ((syn0 b j : Nat) : Int) := by rw [hv7, hv6, hv5, hs1, Int.toNat_natCast]; rfl
      by_cases q : r = j
      · rw [if_pos q]
        subst q
        rw [if_pos (show r < r + 1 by omega)]
        by_cases q1 : c = n
        · rw [if_pos q1, e7]
          subst q1
          unfold mendM
          rw [if_pos hjn, if_neg (Nat.lt_irrefl c), if_pos rfl]
        · rw [if_neg q1]
          by_cases q2 : c < i
          · rw [if_pos (by first | exact .inr ⟨rfl, q2⟩ | exact .inr q2 | exact q2)]
          · rw [if_neg (by omega)]
            unfold mendM
            rw [if_pos hjn, if_neg (by omega), if_neg q1]
      · rw [if_neg q]
        by_cases q1 : r < j
        · rw [if_pos (.inl q1), if_pos (by omega)]
        · rw [if_neg (by omega), if_neg (by omega)]
  subst hv2
  have hjn : j = n := by have := of_decide_eq_false hjn; omega
  subst hjn
  intro x' hx'
  have hM : matD x'.1.f = mendM b pl j := by rw [hx']; exact mend_mat b pl p3
  have hN : x'.1.n = j := by rw [hx']
  have hgd : goodD x'.1 = mdGood b pl j := by unfold goodD mdGood; rw [hM, hN]
  refine ⟨by rw [hN]; omega, by rw [hx']; exact Nat.le_refl _, by rw [hx']; exact Nat.le_refl _, by rw [hx'], by rw [hx'], fun r hr c hc => ?_, fun y hy t1 ht1 => ?_⟩
  · rw [hM, hx']
    dsimp only
    have hr : r < j := by rw [hx'] at hr; exact hr
    rw [if_pos hr]
  rw [hgd] at ht1
  subst ht1
  refine ⟨fun hg => ?_, fun hg => ?_⟩
  · have hg : mdGood b pl j = false := by simpa using hg
    refine ⟨(), ?_, ?_⟩
    · unfold mdC; rw [hg]; rfl
    · unfold mdOk; rw [hg]; rfl
  · have hg : mdGood b pl j = true := by simpa using hg
    have hsl : solLen x'.1 = j := by unfold solLen; rw [hgd, hg, hN]; rfl
    rw [hsl, hM]
    intro b6 h6 h7 v4 hv4
    subst hv4
    refine ⟨⟨0, rfl, ⟨h6, fun i hi => rfl⟩, Nat.zero_le _⟩, fun i hi => ⟨fun hij => ?_, fun hij => ?_⟩⟩
    · have hij : i < j := by have := of_decide_eq_true hij; omega
      obtain ⟨g1, g2⟩ := p4 i hij
      refine ⟨by omega, by omega, by omega, by omega, by omega, by omega, by omega, by omega, by omega, fun v5 hv5 => ⟨by omega, by omega, by omega, fun v6 hv6 => ⟨i + 1, hv6.trans (l_succ (by omega)), ⟨h6, fun k hk => ?_⟩, by omega, by omega⟩⟩⟩
      rw [xor8 (fixF_lt b pl j i _) (solN_lt (mendM_byte b pl j) j i)] at hv5
      show _ = ((if (k : Int) = pl i then Nat.xor (fixF b pl j i k) (solN (mendM b pl j) j i) else fixF b pl j i k : Nat) : Int)
      by_cases q : k = (pl i).toNat
      · rw [if_pos q, if_pos (by omega), hv5, q]
      · rw [if_neg q, if_neg (by omega)]
    · have hij : i = j := by have := of_decide_eq_false hij; omega
      subst hij
      intro v6 hv6 v7 hv7
      have e7 : v7 = ((b.length - 8 : Nat) : Int) := by rw [hv7, hv6, w64_id (by omega) (by omega)]; omega
      subst e7
      simp only [Int.toNat_natCast]
      refine ⟨by omega, by omega, by omega, fun s2 hs2 s3 hs3 v8 _ s4 hs4 => ⟨(), ?_⟩⟩
      have hc : mdC b pl i = s3 := by
        unfold mdC
        rw [hg, hs3, hs2]
        rfl
      refine ⟨hc.symm, ?_⟩
      unfold mdOk
      rw [hc, hg, hs4, Bool.true_and]
      rfl
theorem encL_len2 (l : List UInt8) : (encL l).length ≤ 9223372036854775807 := by
  have := encL_len l
  omega
theorem mended_ok : PcOk Tryz.prog 23 mended := pc_of_ec mended0_ok (by intro args H; rcases args with _ | ⟨_, _ | ⟨_, _ | ⟨_, _⟩⟩⟩ <;> rfl) (fun x _ => ⟨by
  show (mdC _ _ _).length ≤ _
  unfold mdC
  split
  · exact encL_len2 _
  · exact Nat.zero_le _, trivial, trivial⟩)
end Galois
