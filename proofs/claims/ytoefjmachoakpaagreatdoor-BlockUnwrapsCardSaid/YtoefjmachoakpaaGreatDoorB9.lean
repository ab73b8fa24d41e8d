/-
  OWN WORK. Block: syndromes, wrong.
-/
import Derived.Test.YtoefjmachoakpaaGreatDoorB8
namespace Galois
open Go Go.Proofs Eng
set_option linter.unusedVariables false
set_option linter.unusedSimpArgs false
set_option maxHeartbeats 8000000
set_option maxRecDepth 100000

/-- A power of 2. -/
def pwN (z : Int) : Nat := (powI 2 z).toNat
theorem powI_eq (z : Int) : powI 2 z = (pwN z : Nat) := by
  unfold pwN powI
  rw [if_neg (by decide)]
  rfl
theorem pwN_lt (z : Int) : pwN z < 256 := by
  have h := powI_eq z
  unfold powI at h
  rw [if_neg (by decide)] at h
  have := gpow_lt 2 (expI z)
  have e : pwN z = gpow 2 (expI z) := by
    have : ((gpow (Int.toNat 2) (expI z) : Nat) : Int) = (pwN z : Nat) := h
    have : gpow (Int.toNat 2) (expI z) = pwN z := by omega
    exact this.symm
  omega
theorem evalF_lt (l : List UInt8) (x : Nat) : evalF l x < 256 := evA_lt l x _
/-- The value at the zero with number j. -/
def syn0 (b : List UInt8) (j : Nat) : Nat := evalF (revL b) (pwN (j : Nat))
theorem syn0_lt (b : List UInt8) (j : Nat) : syn0 b j < 256 := evalF_lt _ _
/-- .. times 1 + x z. -/
def stepS (x : Nat) (S : Nat → Nat) (j : Nat) : Nat := if j = 0 then S 0 else Nat.xor (S j) (gmul x (S (j - 1)))
theorem stepS_lt {x : Nat} {S : Nat → Nat} (hx : x < 256) (h : ∀ j, S j < 256) (j : Nat) : stepS x S j < 256 := by
  unfold stepS
  split
  · exact h 0
  · exact xor_lt (h _) (gmul_lt hx)
/-- The syndromes, in which the first k erased places do not count. -/
def synE (b : List UInt8) (er : Nat → Int) : Nat → Nat → Nat
  | 0 => syn0 b
  | k + 1 => stepS (pwN ((b.length : Int) - 1 - er k)) (synE b er k)
theorem synE_lt (b : List UInt8) (er : Nat → Int) : ∀ k j, synE b er k j < 256
  | 0, j => syn0_lt b j
  | k + 1, j => stepS_lt (pwN_lt _) (synE_lt b er k) j
/-- The equations of the places that are wrong besides. -/
def wrongM (b : List UInt8) (er : Nat → Int) (n e : Nat) : Mat := fun r c => if r < e then (if c < e then synE b er n (n + e + r - 1 - c) else if c = e then synE b er n (n + e + r) else 0) else 0
theorem wrongM_byte (b : List UInt8) (er : Nat → Int) (n e : Nat) : byteM (wrongM b er n e) := fun r c => by
  unfold wrongM
  split
  · split
    · exact synE_lt _ _ _ _
    · split
      · exact synE_lt _ _ _ _
      · omega
  · omega
theorem wrong_mat (b : List UInt8) (er : Nat → Int) (n : Nat) {e : Nat} (he : e ≤ 8) : matD (fun k j => if k < e then ((wrongM b er n e k j : Nat) : Int) else ((0 : Nat) : Int)) = wrongM b er n e := by
  funext r c
  unfold matD
  have hb := wrongM_byte b er n e r c
  by_cases hc : c < 9
  · rw [if_pos hc]
    dsimp only
    by_cases hr : r < e
    · rw [if_pos hr, Int.toNat_natCast, Nat.mod_eq_of_lt hb]
    · rw [if_neg hr]
      unfold wrongM
      rw [if_neg hr]
      rfl
  · rw [if_neg hc]
    unfold wrongM
    rw [if_neg (show ¬ c < e by omega), if_neg (show ¬ c = e by omega)]
    split <;> rfl
theorem plL_succ (P : Nat → Bool) (k : Nat) : (List.range (k + 1)).filter P = if P k then (List.range k).filter P ++ [k] else (List.range k).filter P := by
  rw [List.range_succ, List.filter_append]
  cases h : P k with
  | true => rw [if_pos rfl]; simp [h]
  | false => rw [if_neg (by decide)]; simp [h]
def locL (b : List UInt8) (er : Nat → Int) (n e : Nat) : List UInt8 := [1] ++ Byt.of (fun k => (solN (wrongM b er n e) e k : Nat)) e
/-- Is the place wrong besides? -/
def plP (b : List UInt8) (er : Nat → Int) (n e p : Nat) : Bool := !inB er n (p : Nat) && (evalF (locL b er n e) (pwN ((p : Int) + 1 - b.length)) == 0)
def plL (b : List UInt8) (er : Nat → Int) (n e k : Nat) : List Nat := (List.range k).filter (plP b er n e)
def wrGood (b : List UInt8) (er : Nat → Int) (n e : Nat) : Bool := goodM (wrongM b er n e) e e
def wrLen (b : List UInt8) (er : Nat → Int) (n e : Nat) : Nat := if wrGood b er n e then (plL b er n e b.length).length else 0
def wrOk (b : List UInt8) (er : Nat → Int) (n e : Nat) : Bool := wrGood b er n e && decide ((plL b er n e b.length).length = e)
abbrev aWr : ArgL (List UInt8 × RowD Int × Int × Unit) := .cons (.elt .str) (.cons (.row (.int .i64)) (.cons (.elt (.int .i64)) .nil))
noncomputable def EBU : Env := ((((EBD.addP 48 eval).addE 47 solution).addP 37 contains).inl 78 Tryz.f78 fun _ _ => [.draw 1 (.take 0 (.take 1 (.take 2 (.take 3 (.take 4 .fin))))) []]).inl 44 Tryz.f44 fun _ _ => []
theorem EBU_ok : EnvOk Tryz.prog EBU := ((((EBD_ok.addP eval_ok).addE solution_ok).addP contains_ok).inl _ Tryz.func78 rfl (by kernel_rfl)).inl _ Tryz.func44 rfl (by kernel_rfl)
def tagS : SV → Nat
  | .slice g _ _ _ _ _ _ _ _ => g
  | .ptr g _ _ _ => g
  | _ => 0
noncomputable def wrong := ecC aWr (fun x => [9 ≤ x.1.length, x.1.length ≤ 231, 0 ≤ x.2.2.1, (x.2.1.n : Int) + 2 * x.2.2.1 ≤ 8, ∀ k, k < x.2.1.n → 0 ≤ x.2.1.f k ∧ x.2.1.f k < x.1.length])
  (fun x (y : Nat × Nat × Nat) => wrLen x.1 x.2.1.f x.2.1.n x.2.2.1.toNat ≤ y.2.2 ∧ y.2.2 ≤ 9223372036854775807 ∧ (wrLen x.1 x.2.1.f x.2.1.n x.2.2.1.toNat = 0 → y.2.2 = 0))
  (fun x y => .tup [.slice 1 y.1 y.2.1 [] 1 0 (wrLen x.1 x.2.1.f x.2.1.n x.2.2.1.toNat) y.2.2 (Nat.beq (wrLen x.1 x.2.1.f x.2.1.n x.2.2.1.toNat) 0), .bool (wrOk x.1 x.2.1.f x.2.1.n x.2.2.1.toNat)])
  (fun x y => [⟨1, y.1, y.2.1, 1, wrLen x.1 x.2.1.f x.2.1.n x.2.2.1.toNat, fun k => .int .i64 ((plL x.1 x.2.1.f x.2.1.n x.2.2.1.toNat x.1.length).getD k 0 : Nat), true, false, y.2.2, 3, Nat.beq (wrLen x.1 x.2.1.f x.2.1.n x.2.2.1.toNat) 0, none⟩]) 1
def wrongA (b : List UInt8) (er : Nat → Int) (n e : Nat) : List An :=
  [.loop ⟨4, Nat × Nat × Nat × Nat, [26, 9], fun y => [.int .i64 (y.1 : Nat), .slice 300 y.2.1 y.2.2.1 [] 1 0 y.1 y.2.2.2 (Nat.beq y.1 0)], [], fun y => [⟨300, y.2.1, y.2.2.1, 1, y.1, fun k => .int .u8 (syn0 b k : Nat), true, false, y.2.2.2, 5, Nat.beq y.1 0, none⟩], fun y => y.1 ≤ 8 ∧ y.1 ≤ y.2.2.2 ∧ (y.1 = 0 → y.2.2.2 = 0), fun y => 8 - y.1⟩,
   .loopD 9 (fun fr H => ⟨9, Nat, [38], fun k => [.int .i64 (k : Nat)], [300], fun k => [{ entG H 300 with get := fun t => .int .u8 (synE b er k t : Nat) }], fun k => k ≤ n, fun k => n - k⟩),
   .loopD 13 (fun fr H => ⟨13, Nat, [14], fun j => [.int .i64 (j : Nat)], [300], fun j => [{ entG H 300 with get := fun t => .int .u8 (if j < t then xorI (intOf ((entG H 300).get t)) (mulI (intOf (slotV fr 13)) (intOf ((entG H 300).get (t - 1)))) else intOf ((entG H 300).get t)) }], fun j => j ≤ 7, fun j => j⟩),
   .draw 15 (.take 0 (.take 1 (.take 2 (.take 4 (.take 5 (.take 6 (.take 7 (.take 8 (.br 3 (.br 9 (.take 10 (.take 11 (.take 12 (.br 13 .fin .stop)))) .stop) (.br 9 (.take 10 (.br 3 (.take 11 (.take 12 (.br 13 .fin .stop))) .stop)) .stop)))))))))) [9],
   .loopD 20 (fun fr H => ⟨20, Nat, [75], fun j => [.int .i64 (j : Nat)], [tagS (slotV fr 16)], fun j => [{ entG H (tagS (slotV fr 16)) with get := fun r => .arr 9 1 fun c => .int .u8 (if r < j then (wrongM b er n e r c : Nat) else (0 : Nat)) }], fun j => j ≤ e, fun j => e - j⟩),
   .loopD 23 (fun fr H => ⟨23, Nat, [79], fun i => [.int .i64 (i : Nat)], [tagS (slotV fr 16)], fun i => [{ entG H (tagS (slotV fr 16)) with get := fun r => .arr 9 1 fun c => .int .u8 (if r < (intOf (slotV fr 75)).toNat ∨ (r = (intOf (slotV fr 75)).toNat ∧ c < i) then (wrongM b er n e r c : Nat) else (0 : Nat)) }], fun i => i ≤ e, fun i => e - i⟩),
   .draw 25 (.take 0 (.take 1 (.take 2 (.take 3 (.take 4 (.take 5 (.take 6 (.take 7 (.take 8 (.take 9 (.take 10 (.take 11 (.take 12 (.take 13 (.take 14 (.take 15 (.br 16 .fin .stop))))))))))))))))) [16],
   .draw 27 (.take 0 (.take 1 (.take 2 (.take 3 (.take 4 (.take 5 (.take 6 (.take 7 (.take 8 (.take 9 (.take 10 (.take 11 (.take 12 (.br 13 .fin .stop)))))))))))))) [16],
   .loop ⟨35, Nat × Nat × Nat × Nat, [125, 22], fun y => [.int .i64 (y.1 : Nat), .slice 301 y.2.1 y.2.2.1 [] 1 0 (plL b er n e y.1).length y.2.2.2 (Nat.beq (plL b er n e y.1).length 0)], [], fun y => [⟨301, y.2.1, y.2.2.1, 1, (plL b er n e y.1).length, fun k => .int .i64 ((plL b er n e y.1).getD k 0 : Nat), true, false, y.2.2.2, 3, Nat.beq (plL b er n e y.1).length 0, none⟩], fun y => y.1 ≤ b.length ∧ (plL b er n e y.1).length ≤ y.2.2.2 ∧ y.2.2.2 ≤ 9223372036854775807 ∧ ((plL b er n e y.1).length = 0 → y.2.2.2 = 0), fun y => b.length - y.1⟩]
theorem wrong_ok : EcOk Tryz.prog 22 wrong := by
  refine ecC_run (fun _ => EBU_ok) Tryz.func22 rfl (by kernel_rfl) [] (fun x => wrongA x.1 x.2.1.f x.2.1.n x.2.2.1.toNat) (fun _ => Nat.le_of_ble_eq_true rfl) (fun ⟨b, ⟨eb, eo, n, c, z, er⟩, e, ()⟩ hp hw => ?_)
  obtain ⟨p1, p2, p3, p4, p5, _⟩ := hp
  dsimp only at p1 p2 p3 p4 p5
  have hn : n ≤ c ∧ c ≤ 9223372036854775807 := (hw _ (List.mem_cons_of_mem _ (List.mem_cons_self ..))).2
  have hE : ((e.toNat : Nat) : Int) = e := Int.toNat_of_nonneg p3
  refine vc_of (q :=
      List.length b ≤ 1000000 ∧ ∀ (s1 : List UInt8), s1 = revL b → ∀ (b1 : Nat), (b1 = b1 ∧ 0 = 0) ∧ (∃ (x1 : Nat × Nat × Nat × Nat), (0 : Int) = (↑x1.1 : Int) ∧ SVeq (SV.slice 999999 0 0 [] 0 0 0 0 true) (SV.slice 300 x1.2.1 x1.2.2.1 [] 1 0 x1.1 x1.2.2.2 (Nat.beq x1.1 0)) ∧ (Nat.beq x1.1 0 = true ∧ x1.1 = 0 ∧ x1.2.2.2 = 0) ∧ x1.1 ≤ 8 ∧ x1.1 ≤ x1.2.2.2 ∧ (x1.1 = 0 → x1.2.2.2 = 0)) ∧ ∀ (x2 : Nat × Nat ×
      Nat × Nat), x2.1 ≤ 8 ∧ x2.1 ≤ x2.2.2.2 ∧ (x2.1 = 0 → x2.2.2.2 = 0) → (decide ((↑x2.1 : Int) < (8 : Int)) = true → (b1 = b1 ∧ 0 = 0) ∧ ((-9223372036854775808 : Int) ≤ (↑x2.1 : Int) ∧ (↑x2.1 : Int) ≤ (9223372036854775807 : Int)) ∧ ∀ (v1 : Int), v1 = powI (2 : Int) (↑x2.1 : Int) → (0 ≤ v1 ∧ v1 ≤ 255) ∧ ∀ (v2 : Int), v2 = (↑(evalF s1 (Int.toNat v1)) : Int) → ∀ (v3 : Int), v3 = v2 → ∀ (b2 : Nat),
      (x2.2.1 = x2.2.1 ∧ x2.2.2.1 = x2.2.2.1) ∧ (Nat.beq x2.1 0 = true → Nat.beq x2.1 0 = true) ∧ 0 = 0 ∧ x2.1 ≤ x2.1 ∧ x2.2.2.2 ≤ x2.2.2.2 ∧ (x2.1 + 1) * 1 ≤ 140737488355328 ∧ x2.1 + 1 ≤ 9223372036854775807 ∧ 1 ≤ 1 ∧ (b2 = b2 ∧ 0 = 0) ∧ ∀ (b3 b4 b5 : Nat), x2.1 + 1 ≤ b5 → b5 ≤ 9223372036854775807 → (Nat.beq x2.1 0 = true → 1 = 0 → b5 = 0) → ∀ (v4 : Int), v4 = IntKind.i64.wrap ((↑x2.1 : Int) + (1 : Int))
      → ∃ (x3 : Nat × Nat × Nat × Nat), v4 = (↑x3.1 : Int) ∧ (b3 = x3.2.1 ∧ b4 = x3.2.2.1 ∧ 0 = 0 ∧ x2.1 + 1 = x3.1 ∧ b5 = x3.2.2.2 ∧ (Nat.beq x2.1 0 && decide (1 = 0)) = Nat.beq x3.1 0) ∧ ((b3 = x3.2.1 ∧ b4 = x3.2.2.1 ∧ (Nat.beq x2.1 0 && decide (1 = 0)) = Nat.beq x3.1 0 ∧ x3.1 ≤ x2.1 + 1 ∧ x3.1 ≤ x3.2.2.2 ∧ x3.2.2.2 ≤ b5) ∧ ∀ (i1 : Nat), i1 < x3.1 → (if i1 < x2.1 then (↑(syn0 b i1) : Int) else v3) =
      (↑(syn0 b i1) : Int)) ∧ (x3.1 ≤ 8 ∧ x3.1 ≤ x3.2.2.2 ∧ (x3.1 = 0 → x3.2.2.2 = 0)) ∧ 8 - x3.1 < 8 - x2.1) ∧ (decide ((↑x2.1 : Int) < (8 : Int)) = false → ∀ (v2 : Int), v2 = (↑n : Int) → (∃ (x3 : Nat), (0 : Int) = (↑x3 : Int) ∧ ((x2.2.1 = x2.2.1 ∧ x2.2.2.1 = x2.2.2.1 ∧ Nat.beq x2.1 0 = Nat.beq x2.1 0 ∧ x2.1 ≤ x2.1 ∧ x2.1 ≤ x2.2.2.2 ∧ x2.2.2.2 ≤ x2.2.2.2) ∧ ∀ (i1 : Nat), i1 < x2.1 → (↑(syn0 b i1) :
      Int) = (↑(synE b er x3 i1) : Int)) ∧ Nat.le x3 n) ∧ ∀ (b2 : Nat), b2 ≤ n → (decide ((↑b2 : Int) < v2) = true → (0 : Int) ≤ (↑b2 : Int) ∧ (↑b2 : Int) < (↑n : Int) ∧ (eb = eb ∧ eo = eo) ∧ b2 < n ∧ ∀ (v3 : Int), v3 = (↑(List.length b) : Int) → ∀ (v4 : Int), v4 = IntKind.i64.wrap (v3 - (1 : Int)) → ∀ (v5 : Int), v5 = IntKind.i64.wrap (v4 - er b2) → ((-9223372036854775808 : Int) ≤ v5 ∧ v5 ≤
      9223372036854775807) ∧ ∀ (v6 : Int), v6 = powI (2 : Int) v5 → ∀ (v7 : Int), v7 = (↑x2.1 : Int) → ∀ (v8 : Int), v8 = IntKind.i64.wrap (v7 - (1 : Int)) → (∃ (x4 : Nat), v8 = (↑x4 : Int) ∧ ((x2.2.1 = x2.2.1 ∧ x2.2.2.1 = x2.2.2.1 ∧ Nat.beq x2.1 0 = Nat.beq x2.1 0 ∧ x2.1 ≤ x2.1 ∧ x2.1 ≤ x2.2.2.2 ∧ x2.2.2.2 ≤ x2.2.2.2) ∧ ∀ (i2 : Nat), i2 < x2.1 → (↑(synE b er b2 i2) : Int) = if x4 < i2 then xorI (↑(synE
      b er b2 i2) : Int) (mulI v6 (↑(synE b er b2 (i2 - 1)) : Int)) else (↑(synE b er b2 i2) : Int)) ∧ Nat.le x4 7) ∧ ∀ (b3 : Nat), b3 ≤ 7 → (decide ((↑b3 : Int) > (0 : Int)) = true → (0 : Int) ≤ (↑b3 : Int) ∧ (↑b3 : Int) < (↑x2.1 : Int) ∧ ∀ (v9 : Int), v9 = IntKind.i64.wrap ((↑b3 : Int) - (1 : Int)) → 0 ≤ v9 ∧ v9 < (↑x2.1 : Int) ∧ ((x2.2.1 = x2.2.1 ∧ x2.2.2.1 = x2.2.2.1) ∧ b3 < x2.1 ∧ ((x2.2.1 = x2.2.1
      ∧ x2.2.2.1 = x2.2.2.1) ∧ Int.toNat v9 < x2.1 ∧ (0 ≤ v6 ∧ v6 ≤ 255) ∧ (((0 : Int) ≤ if b3 < Int.toNat v9 then xorI (↑(synE b er b2 (Int.toNat v9)) : Int) (mulI v6 (↑(synE b er b2 (Int.toNat v9 - 1)) : Int)) else (↑(synE b er b2 (Int.toNat v9)) : Int)) ∧ (if b3 < Int.toNat v9 then xorI (↑(synE b er b2 (Int.toNat v9)) : Int) (mulI v6 (↑(synE b er b2 (Int.toNat v9 - 1)) : Int)) else (↑(synE b er b2
      (Int.toNat v9)) : Int)) ≤ (255 : Int)) ∧ ∀ (v10 : Int), v10 = mulI v6 (if b3 < Int.toNat v9 then xorI (↑(synE b er b2 (Int.toNat v9)) : Int) (mulI v6 (↑(synE b er b2 (Int.toNat v9 - 1)) : Int)) else (↑(synE b er b2 (Int.toNat v9)) : Int)) → ∀ (v11 : Int), v11 = IntKind.u8.wrap (↑(BitVec.toNat (BitVec.ofInt (IntKind.u8.bits) (if b3 < b3 then xorI (↑(synE b er b2 b3) : Int) (mulI v6 (↑(synE b er b2
      (b3 - 1)) : Int)) else (↑(synE b er b2 b3) : Int)) ^^^ BitVec.ofInt (IntKind.u8.bits) v10)) : Int) → (0 : Int) ≤ (↑b3 : Int) ∧ (↑b3 : Int) < (↑x2.1 : Int) ∧ ((x2.2.1 = x2.2.1 ∧ x2.2.2.1 = x2.2.2.1) ∧ b3 < x2.1 ∧ ∀ (v12 : Int), v12 = IntKind.i64.wrap ((↑b3 : Int) - (1 : Int)) → ∃ (x5 : Nat), v12 = (↑x5 : Int) ∧ ((x2.2.1 = x2.2.1 ∧ x2.2.2.1 = x2.2.2.1 ∧ Nat.beq x2.1 0 = Nat.beq x2.1 0 ∧ x2.1 ≤ x2.1 ∧
      x2.1 ≤ x2.2.2.2 ∧ x2.2.2.2 ≤ x2.2.2.2) ∧ ∀ (i3 : Nat), i3 < x2.1 → (if i3 = b3 then v11 else if b3 < i3 then xorI (↑(synE b er b2 i3) : Int) (mulI v6 (↑(synE b er b2 (i3 - 1)) : Int)) else (↑(synE b er b2 i3) : Int)) = if x5 < i3 then xorI (↑(synE b er b2 i3) : Int) (mulI v6 (↑(synE b er b2 (i3 - 1)) : Int)) else (↑(synE b er b2 i3) : Int)) ∧ x5 ≤ 7 ∧ x5 < b3) ∧ True) ∧ True) ∧ ((x2.2.1 = x2.2.1 ∧
      x2.2.2.1 = x2.2.2.1) ∧ Int.toNat v9 < x2.1 ∧ (0 ≤ v6 ∧ v6 ≤ 255) ∧ (((0 : Int) ≤ if b3 < Int.toNat v9 then xorI (↑(synE b er b2 (Int.toNat v9)) : Int) (mulI v6 (↑(synE b er b2 (Int.toNat v9 - 1)) : Int)) else (↑(synE b er b2 (Int.toNat v9)) : Int)) ∧ (if b3 < Int.toNat v9 then xorI (↑(synE b er b2 (Int.toNat v9)) : Int) (mulI v6 (↑(synE b er b2 (Int.toNat v9 - 1)) : Int)) else (↑(synE b er b2
      (Int.toNat v9)) : Int)) ≤ (255 : Int)) ∧ ∀ (v11 : Int), v11 = mulI v6 (if b3 < Int.toNat v9 then xorI (↑(synE b er b2 (Int.toNat v9)) : Int) (mulI v6 (↑(synE b er b2 (Int.toNat v9 - 1)) : Int)) else (↑(synE b er b2 (Int.toNat v9)) : Int)) → ((x2.2.1 = x2.2.1 ∧ x2.2.2.1 = x2.2.2.1) ∧ b3 < x2.1 ∧ ∀ (v12 : Int), v12 = IntKind.u8.wrap (↑(BitVec.toNat (BitVec.ofInt (IntKind.u8.bits) (if b3 < b3 then
      xorI (↑(synE b er b2 b3) : Int) (mulI v6 (↑(synE b er b2 (b3 - 1)) : Int)) else (↑(synE b er b2 b3) : Int)) ^^^ BitVec.ofInt (IntKind.u8.bits) v11)) : Int) → (0 : Int) ≤ (↑b3 : Int) ∧ (↑b3 : Int) < (↑x2.1 : Int) ∧ ((x2.2.1 = x2.2.1 ∧ x2.2.2.1 = x2.2.2.1) ∧ b3 < x2.1 ∧ ∀ (v13 : Int), v13 = IntKind.i64.wrap ((↑b3 : Int) - (1 : Int)) → ∃ (x5 : Nat), v13 = (↑x5 : Int) ∧ ((x2.2.1 = x2.2.1 ∧ x2.2.2.1 =
      x2.2.2.1 ∧ Nat.beq x2.1 0 = Nat.beq x2.1 0 ∧ x2.1 ≤ x2.1 ∧ x2.1 ≤ x2.2.2.2 ∧ x2.2.2.2 ≤ x2.2.2.2) ∧ ∀ (i3 : Nat), i3 < x2.1 → (if i3 = b3 then v12 else if b3 < i3 then xorI (↑(synE b er b2 i3) : Int) (mulI v6 (↑(synE b er b2 (i3 - 1)) : Int)) else (↑(synE b er b2 i3) : Int)) = if x5 < i3 then xorI (↑(synE b er b2 i3) : Int) (mulI v6 (↑(synE b er b2 (i3 - 1)) : Int)) else (↑(synE b er b2 i3) : Int))
      ∧ x5 ≤ 7 ∧ x5 < b3) ∧ True) ∧ True) ∧ True) ∧ (decide ((↑b3 : Int) > (0 : Int)) = false → ∀ (v10 : Int), v10 = IntKind.i64.wrap ((↑b2 : Int) + (1 : Int)) → ∃ (x5 : Nat), v10 = (↑x5 : Int) ∧ ((x2.2.1 = x2.2.1 ∧ x2.2.2.1 = x2.2.2.1 ∧ Nat.beq x2.1 0 = Nat.beq x2.1 0 ∧ x2.1 ≤ x2.1 ∧ x2.1 ≤ x2.2.2.2 ∧ x2.2.2.2 ≤ x2.2.2.2) ∧ ∀ (i3 : Nat), i3 < x2.1 → (if b3 < i3 then xorI (↑(synE b er b2 i3) : Int) (mulI
      v6 (↑(synE b er b2 (i3 - 1)) : Int)) else (↑(synE b er b2 i3) : Int)) = (↑(synE b er x5 i3) : Int)) ∧ x5 ≤ n ∧ n - x5 < n - b2)) ∧ (decide ((↑b2 : Int) < v2) = false → ∀ (v4 : Int), v4 = (↑n : Int) → (0 : Int) ≤ e ∧ e ≤ e ∧ e * (↑(9 : Nat) : Int) ≤ (140737488355328 : Int) ∧ e ≤ (9223372036854775807 : Int) ∧ ∀ (b3 : Nat) (v5 : Int), v5 = (↑(Int.toNat e) : Int) → (∃ (x4 : Nat), (0 : Int) = (↑x4 :
      Int) ∧ ((b3 = b3 ∧ 0 = 0 ∧ false = false ∧ Int.toNat e ≤ Int.toNat e ∧ Int.toNat e ≤ Int.toNat e ∧ Int.toNat e ≤ Int.toNat e) ∧ ∀ (i2 : Nat), i2 < Int.toNat e → SVeq (SV.arr 9 1 fun (x : Nat) ↦ SV.int IntKind.u8 (0 : Int)) (SV.arr 9 1 fun (c : Nat) ↦ SV.int IntKind.u8 (if i2 < x4 then (↑(wrongM b er n (Int.toNat e) i2 c) : Int) else (↑(0 : Nat) : Int)))) ∧ Nat.le x4 (Int.toNat e)) ∧ ∀ (b4 : Nat),
      b4 ≤ Int.toNat e → (decide ((↑b4 : Int) < v5) = true → (∃ (x5 : Nat), (0 : Int) = (↑x5 : Int) ∧ ((b3 = b3 ∧ 0 = 0 ∧ false = false ∧ Int.toNat e ≤ Int.toNat e ∧ Int.toNat e ≤ Int.toNat e ∧ Int.toNat e ≤ Int.toNat e) ∧ ∀ (i3 : Nat), i3 < Int.toNat e → SVeq (SV.arr 9 1 fun (c : Nat) ↦ SV.int IntKind.u8 (if i3 < b4 then (↑(wrongM b er n (Int.toNat e) i3 c) : Int) else (↑(0 : Nat) : Int))) (SV.arr 9 1
      fun (c : Nat) ↦ SV.int IntKind.u8 (if i3 < b4 ∨ i3 = b4 ∧ c < x5 then (↑(wrongM b er n (Int.toNat e) i3 c) : Int) else (↑(0 : Nat) : Int)))) ∧ Nat.le x5 (Int.toNat e)) ∧ ∀ (b5 : Nat), b5 ≤ Int.toNat e → (decide ((↑b5 : Int) < e) = true → ∀ (v6 : Int), v6 = IntKind.i64.wrap (v4 + e) → ∀ (v7 : Int), v7 = IntKind.i64.wrap (v6 + (↑b4 : Int)) → ∀ (v8 : Int), v8 = IntKind.i64.wrap (v7 - (1 : Int)) → ∀
      (v9 : Int), v9 = IntKind.i64.wrap (v8 - (↑b5 : Int)) → 0 ≤ v9 ∧ v9 < (↑x2.1 : Int) ∧ (x2.2.1 = x2.2.1 ∧ x2.2.2.1 = x2.2.2.1) ∧ Int.toNat v9 < x2.1 ∧ (0 : Int) ≤ (↑b4 : Int) ∧ (↑b4 : Int) < (↑(Int.toNat e) : Int) ∧ (0 : Int) ≤ (↑b5 : Int) ∧ (↑b5 : Int) < (↑(9 : Nat) : Int) ∧ ((b3 = b3 ∧ 0 = 0) ∧ b4 < Int.toNat e ∧ b5 < 9 ∧ ∀ (v10 : Int), v10 = IntKind.i64.wrap ((↑b5 : Int) + (1 : Int)) → ∃ (x6 :
      Nat), v10 = (↑x6 : Int) ∧ ((b3 = b3 ∧ 0 = 0 ∧ false = false ∧ Int.toNat e ≤ Int.toNat e ∧ Int.toNat e ≤ Int.toNat e ∧ Int.toNat e ≤ Int.toNat e) ∧ ∀ (i4 : Nat), i4 < Int.toNat e → SVeq (SV.arr 9 1 fun (k : Nat) ↦ SV.int IntKind.u8 (if i4 = b4 then if k = b5 then (↑(synE b er b2 (Int.toNat v9)) : Int) else if b4 < b4 ∨ b4 = b4 ∧ k < b5 then (↑(wrongM b er n (Int.toNat e) b4 k) : Int) else (↑(0 :
      Nat) : Int) else if i4 < b4 ∨ i4 = b4 ∧ k < b5 then (↑(wrongM b er n (Int.toNat e) i4 k) : Int) else (↑(0 : Nat) : Int))) (SV.arr 9 1 fun (c : Nat) ↦ SV.int IntKind.u8 (if i4 < b4 ∨ i4 = b4 ∧ c < x6 then (↑(wrongM b er n (Int.toNat e) i4 c) : Int) else (↑(0 : Nat) : Int)))) ∧ x6 ≤ Int.toNat e ∧ Int.toNat e - x6 < Int.toNat e - b5) ∧ True) ∧ (decide ((↑b5 : Int) < e) = false → ∀ (v7 : Int), v7 =
      IntKind.i64.wrap (v4 + e) → ∀ (v8 : Int), v8 = IntKind.i64.wrap (v7 + (↑b4 : Int)) → 0 ≤ v8 ∧ v8 < (↑x2.1 : Int) ∧ (x2.2.1 = x2.2.1 ∧ x2.2.2.1 = x2.2.2.1) ∧ Int.toNat v8 < x2.1 ∧ (0 : Int) ≤ (↑b4 : Int) ∧ (↑b4 : Int) < (↑(Int.toNat e) : Int) ∧ (0 : Int) ≤ e ∧ e < (↑(9 : Nat) : Int) ∧ ((b3 = b3 ∧ 0 = 0) ∧ b4 < Int.toNat e ∧ Int.toNat e < 9 ∧ ∀ (v9 : Int), v9 = IntKind.i64.wrap ((↑b4 : Int) + (1 :
      Int)) → ∃ (x6 : Nat), v9 = (↑x6 : Int) ∧ ((b3 = b3 ∧ 0 = 0 ∧ false = false ∧ Int.toNat e ≤ Int.toNat e ∧ Int.toNat e ≤ Int.toNat e ∧ Int.toNat e ≤ Int.toNat e) ∧ ∀ (i4 : Nat), i4 < Int.toNat e → SVeq (SV.arr 9 1 fun (k : Nat) ↦ SV.int IntKind.u8 (if i4 = b4 then if k = Int.toNat e then (↑(synE b er b2 (Int.toNat v8)) : Int) else if b4 < b4 ∨ b4 = b4 ∧ k < b5 then (↑(wrongM b er n (Int.toNat e) b4
      k) : Int) else (↑(0 : Nat) : Int) else if i4 < b4 ∨ i4 = b4 ∧ k < b5 then (↑(wrongM b er n (Int.toNat e) i4 k) : Int) else (↑(0 : Nat) : Int))) (SV.arr 9 1 fun (c : Nat) ↦ SV.int IntKind.u8 (if i4 < x6 then (↑(wrongM b er n (Int.toNat e) i4 c) : Int) else (↑(0 : Nat) : Int)))) ∧ x6 ≤ Int.toNat e ∧ Int.toNat e - x6 < Int.toNat e - b4) ∧ True)) ∧ (decide ((↑b4 : Int) < v5) = false → (b3 = b3 ∧ 0 = 0)
      ∧ (0 = 0 ∧ ∀ (k1 : Nat), k1 < Int.toNat e → true = true) ∧ ∀ (x'1 : Eng.OwnD (Nat → Int) × Unit), x'1 = (Eng.OwnD.mk b3 0 (Int.toNat e) (Int.toNat e) false (Int.toNat e) (Int.toNat e) false fun (k j : Nat) ↦ if k < b4 then (↑(wrongM b er n (Int.toNat e) k j) : Int) else (↑(0 : Nat) : Int), ()) → Eng.OwnD.n (Prod.fst x'1) ≤ 8 ∧ Eng.OwnD.n (Prod.fst x'1) ≤ Eng.OwnD.m (Prod.fst x'1) ∧ Eng.OwnD.m
      (Prod.fst x'1) ≤ Eng.OwnD.cap (Prod.fst x'1) ∧ Eng.OwnD.z (Prod.fst x'1) = false ∧ Eng.OwnD.ez (Prod.fst x'1) = false ∧ (∀ (b6 : Nat), b6 < Eng.OwnD.m (Prod.fst x'1) → ∀ (b7 : Nat), b7 < 9 → Eng.OwnD.f (Prod.fst x'1) b6 b7 = (↑(matD (Eng.OwnD.f (Prod.fst x'1)) b6 b7) : Int)) ∧ ∀ (y1 : Nat × Nat × Nat), solLen (Prod.fst x'1) ≤ y1.2.2 ∧ y1.2.2 ≤ 9223372036854775807 ∧ (solLen (Prod.fst x'1) = 0 →
      y1.2.2 = 0) → ∀ (t1 : Bool), t1 = goodD (Prod.fst x'1) → ((!t1) = true → ∃ (x6 : Nat × Nat × Nat), (SVeq (SV.slice 999999 0 0 [] 0 0 0 0 true) (SV.slice 1 x6.1 x6.2.1 [] 1 0 (wrLen b er n (Int.toNat e)) x6.2.2 (Nat.beq (wrLen b er n (Int.toNat e)) 0)) ∧ false = wrOk b er n (Int.toNat e)) ∧ (Nat.beq (wrLen b er n (Int.toNat e)) 0 = true ∧ wrLen b er n (Int.toNat e) = 0 ∧ x6.2.2 = 0) ∧ wrLen b er n
      (Int.toNat e) ≤ x6.2.2 ∧ x6.2.2 ≤ 9223372036854775807 ∧ (wrLen b er n (Int.toNat e) = 0 → x6.2.2 = 0)) ∧ ((!t1) = false → solLen (Prod.fst x'1) ≤ solLen (Prod.fst x'1) ∧ (∀ (k2 : Nat), k2 < solLen (Prod.fst x'1) → true = true) ∧ (y1.1 = y1.1 ∧ y1.2.1 = y1.2.1) ∧ ∀ (s2 : List UInt8), s2 = Byt.of (fun (k : Nat) ↦ (↑(solN (matD (Eng.OwnD.f (Prod.fst x'1))) (solLen (Prod.fst x'1)) k) : Int)) (solLen
      (Prod.fst x'1)) → List.length [(1 : UInt8)] + List.length s2 ≤ 9223372036854775807 ∧ ∀ (s3 : List UInt8), s3 = [(1 : UInt8)] ++ s2 → ∀ (v6 : Int), v6 = (↑(List.length b) : Int) → (∃ (x7 : Nat × Nat × Nat × Nat), (0 : Int) = (↑x7.1 : Int) ∧ SVeq (SV.slice 999999 0 0 [] 0 0 0 0 true) (SV.slice 301 x7.2.1 x7.2.2.1 [] 1 0 (List.length (plL b er n (Int.toNat e) x7.1)) x7.2.2.2 (Nat.beq (List.length (plL
      b er n (Int.toNat e) x7.1)) 0)) ∧ (Nat.beq (List.length (plL b er n (Int.toNat e) x7.1)) 0 = true ∧ List.length (plL b er n (Int.toNat e) x7.1) = 0 ∧ x7.2.2.2 = 0) ∧ x7.1 ≤ List.length b ∧ List.length (plL b er n (Int.toNat e) x7.1) ≤ x7.2.2.2 ∧ x7.2.2.2 ≤ 9223372036854775807 ∧ (List.length (plL b er n (Int.toNat e) x7.1) = 0 → x7.2.2.2 = 0)) ∧ ∀ (x8 : Nat × Nat × Nat × Nat), x8.1 ≤ List.length b ∧
      List.length (plL b er n (Int.toNat e) x8.1) ≤ x8.2.2.2 ∧ x8.2.2.2 ≤ 9223372036854775807 ∧ (List.length (plL b er n (Int.toNat e) x8.1) = 0 → x8.2.2.2 = 0) → (decide ((↑x8.1 : Int) < v6) = true → n ≤ n ∧ (∀ (k3 : Nat), k3 < n → true = true) ∧ (eb = eb ∧ eo = eo) ∧ ∀ (t2 : Bool), t2 = inB er n (↑x8.1 : Int) → ∀ (v7 : Int), v7 = IntKind.i64.wrap ((↑x8.1 : Int) + (1 : Int)) → ∀ (v8 : Int), v8 =
      (↑(List.length b) : Int) → ∀ (v9 : Int), v9 = IntKind.i64.wrap (v7 - v8) → ((!t2) = true → (-9223372036854775808 : Int) ≤ v9 ∧ v9 ≤ 9223372036854775807) ∧ ∀ (v10 : Int), v10 = powI (2 : Int) v9 → ((!t2) = true → 0 ≤ v10 ∧ v10 ≤ 255) ∧ ∀ (v11 : Int), v11 = (↑(evalF s3 (Int.toNat v10)) : Int) → ∀ (t3 : Bool), (t3 = if (!t2) = true then v11 == (0 : Int) else false) → (t3 = true → ∀ (b7 : Nat), (x8.2.1
      = x8.2.1 ∧ x8.2.2.1 = x8.2.2.1) ∧ (Nat.beq (List.length (plL b er n (Int.toNat e) x8.1)) 0 = true → Nat.beq (List.length (plL b er n (Int.toNat e) x8.1)) 0 = true) ∧ 0 = 0 ∧ List.length (plL b er n (Int.toNat e) x8.1) ≤ List.length (plL b er n (Int.toNat e) x8.1) ∧ x8.2.2.2 ≤ x8.2.2.2 ∧ (List.length (plL b er n (Int.toNat e) x8.1) + 1) * 8 ≤ 140737488355328 ∧ List.length (plL b er n (Int.toNat e)
      x8.1) + 1 ≤ 9223372036854775807 ∧ 1 ≤ 1 ∧ (b7 = b7 ∧ 0 = 0) ∧ ∀ (b8 b9 b10 : Nat), List.length (plL b er n (Int.toNat e) x8.1) + 1 ≤ b10 → b10 ≤ 9223372036854775807 → (Nat.beq (List.length (plL b er n (Int.toNat e) x8.1)) 0 = true → 1 = 0 → b10 = 0) → ∀ (v12 : Int), v12 = IntKind.i64.wrap ((↑x8.1 : Int) + (1 : Int)) → ∃ (x9 : Nat × Nat × Nat × Nat), v12 = (↑x9.1 : Int) ∧ (b8 = x9.2.1 ∧ b9 =
      x9.2.2.1 ∧ 0 = 0 ∧ List.length (plL b er n (Int.toNat e) x8.1) + 1 = List.length (plL b er n (Int.toNat e) x9.1) ∧ b10 = x9.2.2.2 ∧ (Nat.beq (List.length (plL b er n (Int.toNat e) x8.1)) 0 && decide (1 = 0)) = Nat.beq (List.length (plL b er n (Int.toNat e) x9.1)) 0) ∧ ((b8 = x9.2.1 ∧ b9 = x9.2.2.1 ∧ (Nat.beq (List.length (plL b er n (Int.toNat e) x8.1)) 0 && decide (1 = 0)) = Nat.beq (List.length
      (plL b er n (Int.toNat e) x9.1)) 0 ∧ List.length (plL b er n (Int.toNat e) x9.1) ≤ List.length (plL b er n (Int.toNat e) x8.1) + 1 ∧ List.length (plL b er n (Int.toNat e) x9.1) ≤ x9.2.2.2 ∧ x9.2.2.2 ≤ b10) ∧ ∀ (i4 : Nat), i4 < List.length (plL b er n (Int.toNat e) x9.1) → (if i4 < List.length (plL b er n (Int.toNat e) x8.1) then (↑(List.getD (plL b er n (Int.toNat e) x8.1) i4 0) : Int) else (↑x8.1
      : Int)) = (↑(List.getD (plL b er n (Int.toNat e) x9.1) i4 0) : Int)) ∧ (x9.1 ≤ List.length b ∧ List.length (plL b er n (Int.toNat e) x9.1) ≤ x9.2.2.2 ∧ x9.2.2.2 ≤ 9223372036854775807 ∧ (List.length (plL b er n (Int.toNat e) x9.1) = 0 → x9.2.2.2 = 0)) ∧ List.length b - x9.1 < List.length b - x8.1) ∧ (t3 = false → ∀ (v12 : Int), v12 = IntKind.i64.wrap ((↑x8.1 : Int) + (1 : Int)) → ∃ (x9 : Nat × Nat ×
      Nat × Nat), v12 = (↑x9.1 : Int) ∧ (x8.2.1 = x9.2.1 ∧ x8.2.2.1 = x9.2.2.1 ∧ 0 = 0 ∧ List.length (plL b er n (Int.toNat e) x8.1) = List.length (plL b er n (Int.toNat e) x9.1) ∧ x8.2.2.2 = x9.2.2.2 ∧ Nat.beq (List.length (plL b er n (Int.toNat e) x8.1)) 0 = Nat.beq (List.length (plL b er n (Int.toNat e) x9.1)) 0) ∧ ((x8.2.1 = x9.2.1 ∧ x8.2.2.1 = x9.2.2.1 ∧ Nat.beq (List.length (plL b er n (Int.toNat
      e) x8.1)) 0 = Nat.beq (List.length (plL b er n (Int.toNat e) x9.1)) 0 ∧ List.length (plL b er n (Int.toNat e) x9.1) ≤ List.length (plL b er n (Int.toNat e) x8.1) ∧ List.length (plL b er n (Int.toNat e) x9.1) ≤ x9.2.2.2 ∧ x9.2.2.2 ≤ x8.2.2.2) ∧ ∀ (i4 : Nat), i4 < List.length (plL b er n (Int.toNat e) x9.1) → (↑(List.getD (plL b er n (Int.toNat e) x8.1) i4 0) : Int) = (↑(List.getD (plL b er n
      (Int.toNat e) x9.1) i4 0) : Int)) ∧ (x9.1 ≤ List.length b ∧ List.length (plL b er n (Int.toNat e) x9.1) ≤ x9.2.2.2 ∧ x9.2.2.2 ≤ 9223372036854775807 ∧ (List.length (plL b er n (Int.toNat e) x9.1) = 0 → x9.2.2.2 = 0)) ∧ List.length b - x9.1 < List.length b - x8.1)) ∧ (decide ((↑x8.1 : Int) < v6) = false → ∀ (v7 : Int), v7 = (↑(List.length (plL b er n (Int.toNat e) x8.1)) : Int) → ∃ (x9 : Nat × Nat ×
      Nat), ((x8.2.1 = x9.1 ∧ x8.2.2.1 = x9.2.1 ∧ 0 = 0 ∧ List.length (plL b er n (Int.toNat e) x8.1) = wrLen b er n (Int.toNat e) ∧ x8.2.2.2 = x9.2.2 ∧ Nat.beq (List.length (plL b er n (Int.toNat e) x8.1)) 0 = Nat.beq (wrLen b er n (Int.toNat e)) 0) ∧ (v7 == e) = wrOk b er n (Int.toNat e)) ∧ ((x8.2.1 = x9.1 ∧ x8.2.2.1 = x9.2.1 ∧ Nat.beq (List.length (plL b er n (Int.toNat e) x8.1)) 0 = Nat.beq (wrLen b
      er n (Int.toNat e)) 0 ∧ wrLen b er n (Int.toNat e) ≤ List.length (plL b er n (Int.toNat e) x8.1) ∧ wrLen b er n (Int.toNat e) ≤ x9.2.2 ∧ x9.2.2 ≤ x8.2.2.2) ∧ ∀ (i4 : Nat), i4 < wrLen b er n (Int.toNat e) → (↑(List.getD (plL b er n (Int.toNat e) x8.1) i4 0) : Int) = (↑(List.getD (plL b er n (Int.toNat e) (List.length b)) i4 0) : Int)) ∧ wrLen b er n (Int.toNat e) ≤ x9.2.2 ∧ x9.2.2 ≤
      9223372036854775807 ∧ (wrLen b er n (Int.toNat e) = 0 → x9.2.2 = 0))))))) (by kernel_rfl) ?_
  try simp only [eq_self, true_and, and_true, Nat.le_refl, implies_true, forall_const, Bool.false_eq_true, Bool.true_eq_false, reduceCtorEq, false_imp_iff, true_imp_iff, Int.toNat_zero, Int.toNat_natCast, Nat.zero_lt_one, Int.le_refl, allGet]
  generalize e.toNat = E at *
  subst hE
  have e4 : E ≤ 4 := by omega
  have n8 : n + 2 * E ≤ 8 := by omega
  have hS := synE_lt b er
  refine ⟨by omega, fun s1 hs1 => ⟨⟨(0, 0, 0, 0), rfl, nil_eqv rfl rfl rfl, ⟨rfl, rfl, rfl⟩, Nat.zero_le _, Nat.le_refl _, fun _ => rfl⟩, fun y hy => ?_⟩⟩
  obtain ⟨y1, y2, y3⟩ := hy
  refine ⟨fun hlt => ?_, fun hge v2 hv2 => ?_⟩
  · have hlt : y.1 < 8 := by have := of_decide_eq_true hlt; omega
    refine ⟨⟨by omega, by omega⟩, fun v1 hv1 => ?_⟩
    have hpl := pwN_lt (y.1 : Nat)
    rw [powI_eq] at hv1
    refine ⟨by omega, fun v2 hv2 v3 hv3 => ⟨fun q => q, by omega, by omega, fun c1 c2 c3 h3 h4 v4 hv4 => ⟨(y.1 + 1, c1, c2, c3), hv4.trans (l_succ (by omega)), ⟨rfl, rfl, rfl, rfl, ?_⟩, ⟨⟨rfl, rfl, ?_, Nat.le_refl _, h3, Nat.le_refl _⟩, fun k hk => ?_⟩, ⟨by dsimp only; omega, h3, fun q => by cases q⟩, by dsimp only; omega⟩⟩⟩
    · rw [decide_eq_false (fun h => h), Bool.and_false]; rfl
    · rw [decide_eq_false (fun h => h), Bool.and_false]; rfl
    · dsimp only at hk
      by_cases q : k < y.1
      · rw [if_pos q]
      · rw [if_neg q, show k = y.1 by omega, hv3, hv2, hv1, hs1, Int.toNat_natCast]
        rfl
  have hge : y.1 = 8 := by have := of_decide_eq_false hge; omega
  obtain ⟨y1, yb, yo, yc⟩ := y
  dsimp only at hge y2 y3 y1
  subst hge hv2
  refine ⟨⟨0, rfl, ⟨y2, fun i hi => rfl⟩, Nat.zero_le _⟩, fun k hk => ⟨fun hlt => ?_, fun hge => ?_⟩⟩
  · have hlt : k < n := by have := of_decide_eq_true hlt; omega
    simp only [Int.toNat_natCast]
    obtain ⟨g1, g2⟩ := p5 k hlt
    refine ⟨by omega, by omega, by omega, fun v3 hv3 v4 hv4 v5 hv5 => ?_⟩
    have e4' : v4 = (b.length : Int) - 1 := by rw [hv4, hv3, w64_id (by omega) (by omega)]
    have e5 : v5 = (b.length : Int) - 1 - er k := by rw [hv5, e4', w64_id (by omega) (by omega)]
    refine ⟨⟨by omega, by omega⟩, fun v6 hv6 v7 hv7 v8 hv8 => ?_⟩
    have hpl := pwN_lt v5
    rw [powI_eq] at hv6
    have e8 : v8 = ((7 : Nat) : Int) := by rw [hv8, hv7, w64_id (by omega) (by omega)]; rfl
    subst e8 hv6
    refine ⟨⟨7, rfl, ⟨y2, fun i hi => by rw [if_neg (by omega)]⟩, Nat.le_refl _⟩, fun j hj => ⟨fun hj0 => ?_, fun hj0 v10 hv10 => ⟨k + 1, hv10.trans (l_succ (by omega)), ⟨y2, fun i hi => ?_⟩, by omega, by omega⟩⟩⟩
    · have hj0 : 0 < j := by have := of_decide_eq_true hj0; omega
      refine ⟨by omega, by omega, fun v9 hv9 => ?_⟩
      have e9 : v9 = ((j - 1 : Nat) : Int) := by rw [hv9, w64_id (by omega) (by omega)]; omega
      subst e9
      simp only [Int.toNat_natCast, if_neg (show ¬ j < j - 1 by omega), if_neg (Nat.lt_irrefl j)]
      have g3 := hS k (j - 1)
      have g4 := hS k j
      have fin : ∀ v10 v11 : Int, v10 = mulI ((pwN v5 : Nat) : Int) ((synE b er k (j - 1) : Nat) : Int) → v11 = IntKind.u8.wrap ((BitVec.ofInt IntKind.u8.bits ((synE b er k j : Nat) : Int) ^^^ BitVec.ofInt IntKind.u8.bits v10).toNat : Int) → ∀ v12 : Int, v12 = IntKind.i64.wrap ((j : Int) - 1) →
          ∃ x5 : Nat, v12 = (x5 : Int) ∧ (8 ≤ yc ∧ ∀ i3 : Nat, i3 < 8 → (if i3 = j then v11 else if j < i3 then xorI ((synE b er k i3 : Nat) : Int) (mulI ((pwN v5 : Nat) : Int) ((synE b er k (i3 - 1) : Nat) : Int)) else ((synE b er k i3 : Nat) : Int)) = if x5 < i3 then xorI ((synE b er k i3 : Nat) : Int) (mulI ((pwN v5 : Nat) : Int) ((synE b er k (i3 - 1) : Nat) : Int)) else ((synE b er k i3 : Nat) : Int)) ∧ x5 ≤ 7 ∧ x5 < j := fun v10 v11 hv10 hv11 v12 hv12 => by
        refine ⟨j - 1, by rw [hv12, w64_id (by omega) (by omega)]; omega, ⟨y2, fun i hi => ?_⟩, by omega, by omega⟩
        by_cases q : i = j
        · rw [if_pos q, if_pos (by omega), hv11, hv10, q]
          exact xor8 g4 (gmul_lt hpl)
        · rw [if_neg q]
          by_cases q2 : j < i
          · rw [if_pos q2, if_pos (by omega)]
          · rw [if_neg q2, if_neg (by omega)]
      exact ⟨by omega, by omega, ⟨by omega, by omega, ⟨by omega, by omega⟩, ⟨by omega, by omega⟩, fun v10 hv10 v11 hv11 => ⟨by omega, by omega, by omega, fin v10 v11 hv10 hv11⟩⟩, by omega, ⟨by omega, by omega⟩, ⟨by omega, by omega⟩, fun v10 hv10 => ⟨by omega, fun v11 hv11 => ⟨by omega, by omega, by omega, fin v10 v11 hv10 hv11⟩⟩⟩
    · have hj0 : j = 0 := by have := of_decide_eq_false hj0; omega
      rw [hj0]
      show _ = ((stepS (pwN ((b.length : Int) - 1 - er k)) (synE b er k) i : Nat) : Int)
      unfold stepS
      by_cases q : i = 0
      · rw [if_pos q, if_neg (by omega), q]
      · rw [if_neg q, if_pos (by omega), e5]
        rfl
  · have hge : k = n := by have := of_decide_eq_false hge; omega
    subst hge
    intro v4 hv4
    subst hv4
    refine ⟨by omega, by omega, by omega, fun b3 v5 hv5 => ?_⟩
    subst hv5
    refine ⟨⟨0, rfl, fun i hi => arr_eqv fun c hc => by rw [if_neg (Nat.not_lt_zero i)]; rfl, Nat.zero_le _⟩, fun j hj => ⟨fun hjE => ?_, fun hjE => ?_⟩⟩
    · have hjE : j < E := by have := of_decide_eq_true hjE; omega
      refine ⟨⟨0, rfl, fun r hr => arr_eqv fun c hc => ?_, Nat.zero_le _⟩, fun i hi => ⟨fun hiE v6 hv6 v7 hv7 v8 hv8 v9 hv9 => ?_, fun hiE v7 hv7 v8 hv8 => ?_⟩⟩
      · by_cases q : r < j
        · rw [if_pos q, if_pos (.inl q)]
        · rw [if_neg q, if_neg (by omega)]
      · have hiE : i < E := by have := of_decide_eq_true hiE; omega
        have e6 : v6 = (k : Int) + E := by rw [hv6, w64_id (by omega) (by omega)]
        have e7 : v7 = (k : Int) + E + j := by rw [hv7, e6, w64_id (by omega) (by omega)]
        have e8 : v8 = (k : Int) + E + j - 1 := by rw [hv8, e7, w64_id (by omega) (by omega)]
        have e9 : v9 = ((k + E + j - 1 - i : Nat) : Int) := by rw [hv9, e8, w64_id (by omega) (by omega)]; omega
        subst e9
        dsimp only
        refine ⟨by omega, by omega, by omega, by omega, by omega, by omega, by omega, by omega, by omega, fun v10 hv10 => ⟨i + 1, hv10.trans (l_succ (by omega)), fun r hr => arr_eqv fun c hc => ?_, by omega, by omega⟩⟩
        rw [Int.toNat_natCast]
        by_cases q : r = j
        · rw [if_pos q]
          subst q
          by_cases q1 : c = i
          · rw [if_pos q1, if_pos (.inr ⟨rfl, by omega⟩)]
            subst q1
            unfold wrongM
            rw [if_pos hr, if_pos hiE]
          · rw [if_neg q1]
            by_cases q2 : c < i
            · rw [if_pos (by first | exact .inr ⟨rfl, q2⟩ | exact .inr q2 | exact q2), if_pos (by first | exact .inr ⟨rfl, by omega⟩ | exact .inr (by omega) | omega)]
            · rw [if_neg (by omega), if_neg (by omega)]
        · rw [if_neg q]
          by_cases q1 : r < j
          · rw [if_pos (.inl q1), if_pos (.inl q1)]
          · rw [if_neg (by omega), if_neg (by omega)]
      · have hiE : i = E := by have := of_decide_eq_false hiE; omega
        have e7 : v7 = (k : Int) + E := by rw [hv7, w64_id (by omega) (by omega)]
        have e8 : v8 = ((k + E + j : Nat) : Int) := by rw [hv8, e7, w64_id (by omega) (by omega)]; omega
        subst e8
        dsimp only
        refine ⟨by omega, by omega, by omega, by omega, by omega, by omega, by omega, by omega, by omega, fun v9 hv9 => ⟨j + 1, hv9.trans (l_succ (by omega)), fun r hr => arr_eqv fun c hc => ?_, by omega, by omega⟩⟩
        rw [Int.toNat_natCast]
        by_cases q : r = j
        · rw [if_pos q]
          subst q
          rw [if_pos (show r < r + 1 by omega)]
          by_cases q1 : c = E
          · rw [if_pos q1]
            subst q1
            unfold wrongM
            rw [if_pos hr, if_neg (Nat.lt_irrefl c), if_pos rfl]
          · rw [if_neg q1]
            by_cases q2 : c < i
            · rw [if_pos (by first | exact .inr ⟨rfl, q2⟩ | exact .inr q2 | exact q2)]
            · rw [if_neg (by omega)]
              unfold wrongM
              rw [if_pos hr, if_neg (by omega), if_neg q1]
        · rw [if_neg q]
          by_cases q1 : r < j
          · rw [if_pos (.inl q1), if_pos (by omega)]
          · rw [if_neg (by omega), if_neg (by omega)]
    have hjE : j = E := by have := of_decide_eq_false hjE; omega
    subst hjE
    intro x' hx'
    have hM : matD x'.1.f = wrongM b er k j := by rw [hx']; exact wrong_mat b er k (by omega)
    have hN : x'.1.n = j := by rw [hx']
    have hgd : goodD x'.1 = wrGood b er k j := by unfold goodD wrGood; rw [hM, hN]
    refine ⟨by rw [hN]; omega, by rw [hx']; exact Nat.le_refl _, by rw [hx']; exact Nat.le_refl _, by rw [hx'], by rw [hx'], fun r hr c hc => ?_, fun y hy t1 ht1 => ?_⟩
    · rw [hM, hx']
      dsimp only
      have hr : r < j := by rw [hx'] at hr; exact hr
      rw [if_pos hr]
    rw [hgd] at ht1
    subst ht1
    refine ⟨fun hg => ?_, fun hg => ?_⟩
    · have hg : wrGood b er k j = false := by simpa using hg
      have hl : wrLen b er k j = 0 := by unfold wrLen; rw [hg]; rfl
      have ho : wrOk b er k j = false := by unfold wrOk; rw [hg]; rfl
      rw [hl, ho]
      exact ⟨(0, 0, 0), ⟨nil_eqv rfl rfl rfl, rfl⟩, ⟨rfl, rfl, rfl⟩, Nat.le_refl _, by dsimp only; omega, fun _ => rfl⟩
    · have hg : wrGood b er k j = true := by simpa using hg
      have hsl : solLen x'.1 = j := by unfold solLen; rw [hgd, hg, hN]; rfl
      have hl : wrLen b er k j = (plL b er k j b.length).length := by unfold wrLen; rw [hg]; rfl
      have ho : wrOk b er k j = decide ((plL b er k j b.length).length = j) := by unfold wrOk; rw [hg, Bool.true_and]
      rw [hsl, hM]
      intro s2 hs2
      have l2 : s2.length = j := by rw [hs2]; exact byt_len _ _
      refine ⟨by rw [l2]; show 1 + j ≤ _; omega, fun s3 hs3 v6 hv6 => ?_⟩
      have h3 : s3 = locL b er k j := by rw [hs3, hs2]; rfl
      subst hv6
      have hsucc : ∀ p, plL b er k j (p + 1) = if plP b er k j p then plL b er k j p ++ [p] else plL b er k j p := fun p => plL_succ (plP b er k j) p
      have hlen : ∀ p, (plL b er k j p).length ≤ p := fun p => by
        have := List.length_filter_le (plP b er k j) (List.range p)
        rw [List.length_range] at this
        exact this
      refine ⟨⟨(0, 0, 0, 0), rfl, nil_eqv rfl rfl rfl, ⟨rfl, rfl, rfl⟩, Nat.zero_le _, Nat.le_refl _, by dsimp only; omega, fun _ => rfl⟩, fun y hy => ⟨fun hlt t2 ht2 v7 hv7 v8 hv8 v9 hv9 => ?_, fun hge v7 hv7 => ?_⟩⟩
      · obtain ⟨z1, z2, z3, z4⟩ := hy
        have hlt : y.1 < b.length := by have := of_decide_eq_true hlt; omega
        have e7 : v7 = (y.1 : Int) + 1 := by rw [hv7, w64_id (by omega) (by omega)]
        have e9 : v9 = (y.1 : Int) + 1 - b.length := by rw [hv9, e7, hv8, w64_id (by omega) (by omega)]
        refine ⟨fun _ => ⟨by omega, by omega⟩, fun v10 hv10 => ?_⟩
        have hpl := pwN_lt v9
        rw [powI_eq] at hv10
        refine ⟨fun _ => ⟨by omega, by omega⟩, fun v11 hv11 t3 ht3 => ?_⟩
        have h3t : t3 = plP b er k j y.1 := by
          rw [ht3, hv11, hv10, e9, h3, ht2, Int.toNat_natCast]
          unfold plP
          have hbe : ∀ N : Nat, (((N : Nat) : Int) == 0) = (N == 0) := fun N => by
            cases N with
            | zero => rfl
            | succ N => rfl
          rw [hbe]
          cases inB er k (y.1 : Nat) <;> simp
        have hl1 := hlen y.1
        refine ⟨fun ht => ?_, fun ht v12 hv12 => ?_⟩
        · have hs : plL b er k j (y.1 + 1) = plL b er k j y.1 ++ [y.1] := by rw [hsucc, ← h3t, ht]; rfl
          have hsl2 : (plL b er k j (y.1 + 1)).length = (plL b er k j y.1).length + 1 := by rw [hs, List.length_append]; rfl
          refine ⟨fun q => q, by omega, by omega, fun c1 c2 c3 h3 h4 v12 hv12 => ⟨(y.1 + 1, c1, c2, c3), hv12.trans (l_succ (by omega)), ⟨rfl, rfl, by rw [hsl2], rfl, ?_⟩, ⟨⟨rfl, rfl, ?_, by rw [hsl2]; exact Nat.le_refl _, by rw [hsl2]; exact h3, Nat.le_refl _⟩, fun i hi => ?_⟩, ⟨by dsimp only; omega, by rw [hsl2]; exact h3, h4, fun q => by rw [hsl2] at q; cases q⟩, by dsimp only; omega⟩⟩
          · rw [hsl2, decide_eq_false (fun h => h), Bool.and_false]; rfl
          · rw [hsl2, decide_eq_false (fun h => h), Bool.and_false]; rfl
          · rw [hsl2] at hi
            rw [hs]
            simp only [List.getD]
            by_cases q : i < (plL b er k j y.1).length
            · rw [if_pos q, List.getElem?_append_left q]
            · rw [if_neg q, List.getElem?_append_right (by omega), show i - (plL b er k j y.1).length = 0 by omega]
              rfl
        · have hs : plL b er k j (y.1 + 1) = plL b er k j y.1 := by rw [hsucc, ← h3t, ht]; rfl
          exact ⟨(y.1 + 1, y.2.1, y.2.2.1, y.2.2.2), hv12.trans (l_succ (by omega)), ⟨rfl, rfl, by rw [hs], rfl, by rw [hs]⟩, ⟨⟨rfl, rfl, by rw [hs], by rw [hs]; exact Nat.le_refl _, by rw [hs]; exact z2, Nat.le_refl _⟩, fun i hi => by rw [hs]⟩, ⟨by dsimp only; omega, by rw [hs]; exact z2, z3, by rw [hs]; exact z4⟩, by dsimp only; omega⟩
      · obtain ⟨z1, z2, z3, z4⟩ := hy
        have hge : y.1 = b.length := by have := of_decide_eq_false hge; omega
        rw [hge] at z2 z4 hv7 ⊢
        rw [hl, ho]
        refine ⟨(y.2.1, y.2.2.1, y.2.2.2), ⟨⟨rfl, rfl, rfl, rfl, rfl⟩, ?_⟩, ⟨⟨rfl, rfl, rfl, Nat.le_refl _, z2, Nat.le_refl _⟩, fun i hi => rfl⟩, z2, z3, z4⟩
        rw [hv7]
        by_cases q : (plL b er k j b.length).length = j
        · rw [decide_eq_true q, q]; simp
        · rw [decide_eq_false q]
          simp only [beq_eq_false_iff_ne, ne_eq]
          omega
end Galois
