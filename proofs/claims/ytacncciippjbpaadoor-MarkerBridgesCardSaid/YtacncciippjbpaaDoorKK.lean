/-
  OWN WORK. Marker: lists that are lent, new finders.
-/
import Derived.Test.YtacncciippjbpaaDoorKJ
import Derived.Test.YtacncciippjbpaaDoorK7
namespace Mk
open Go Go.Proofs Eng
set_option linter.unusedVariables false
set_option linter.unusedSimpArgs false
set_option maxRecDepth 100000
set_option maxHeartbeats 8000000

/-! ### a row with one cell behind it -/
def row1 {β : Type} (a : Elt β) : Arg (RowD β) where
  get := fun v H => match v with
    | .slice g b off p wd i n c z => match rowOf H g b off p wd z with
      | some (ps, m, get) => some (.c (Nat.beq wd a.wd) :: .c (Nat.blt 0 a.wd) :: .p (z = false) :: .p (sh i (n + 1) ≤ m) :: .p (allGet a (fun k => get (sh i k)) (n + 1)) :: ps, ⟨b, off + (pathOff p + i * wd), n, c, z, fun k => (a.get (get (sh i k))).getD a.dflt⟩)
      | none => none
    | _ => none
  sv := fun t x => .slice t x.b x.off [] a.wd 0 x.n x.c x.z
  hp := fun t x => [⟨t, x.b, x.off, a.wd, x.n + 1, fun k => a.mkv (x.f k), false, false, 0, 0, false, none⟩]
  om := fun _ _ _ => []
  rm := fun t v H => match v with
    | .slice g _ _ _ _ _ _ _ _ => [(t, g)]
    | _ => []
  rt := fun v H => match v with
    | .slice g _ _ _ _ _ _ _ _ => [g]
    | _ => []
  tags := 1
  tg := fun t x => .one rfl
  ok := by
    intro v H ps x h hp hw _ t
    cases v with
    | slice g b off p wd i n c z =>
      dsimp only at h
      split at h
      · rename_i qs m get hel
        simp only [Option.some.injEq, Prod.mk.injEq] at h
        obtain ⟨rfl, rfl⟩ := h
        obtain ⟨p1, pw, pz, p2, p3, p4⟩ := hp
        have p1 := beqN p1
        subst p1
        have pw : 0 < a.wd := by simpa [Nat.blt_eq] using pw
        have pz : z = false := pz
        have p2 : sh i (n + 1) ≤ m := p2
        have p3 : allGet a (fun k => get (sh i k)) (n + 1) := p3
        rw [sh_eq] at p2
        refine ⟨⟨by simp [SV.den, pathOff], by simp [SV.flat, pathOff], hw, rfl⟩, fun e he => .inr ?_⟩
        simp only [List.mem_singleton] at he
        subst he
        refine ⟨rfl, ?_⟩
        rcases row_facts hel p4 with ⟨en, hen, hsrc⟩ | hz
        · refine .inl ⟨g, en, List.mem_singleton.2 rfl, hen, fun C w hO => ?_⟩
          obtain ⟨s1, s2⟩ := hsrc w hO.facts_ro
          obtain ⟨s0, s1⟩ := s1 (by omega)
          have hold := hO.old s0 rfl b (s1 pw)
          refine ⟨(fun q => by cases q), fun _ _ _ => hold, (fun q => by cases q), (fun q => by cases q), (fun f q => by cases q), fun k hk => ?_⟩
          have hk : k < n + 1 := hk
          have hm := elt_of (p3 k hk)
          dsimp only at hm ⊢
          rw [hm]
          obtain ⟨q1, q2, q3, q4⟩ := s2 (sh i k) (by rw [sh_eq]; omega)
          refine ⟨q1, q2, q3, ?_⟩
          rw [show off + (pathOff p + i * a.wd) + k * a.wd = off + (pathOff p + (sh i k) * a.wd) from by rw [sh_eq, Nat.add_mul]; omega]
          exact q4
        · rw [pz] at hz; cases hz
      · cases h
    | _ => simp at h
instance {β : Type} (a : Elt β) : Arg.RO (row1 a) := ⟨fun t x e h => by rw [List.mem_singleton.1 h]⟩
/-! ### LendInts, KeptInts -/
def lend := ecC aRow (fun x => [x.1.z = false, (x.1.n + 1) * 8 ≤ 140737488355328]) (fun x (y : Nat × Nat × Nat) => x.1.n + 1 ≤ y.2.2 ∧ y.2.2 ≤ 9223372036854775807) (fun x y => .slice 1 y.1 y.2.1 [] 1 0 x.1.n y.2.2 false) (fun x y => [⟨1, y.1, y.2.1, 1, x.1.n + 1, fun k => .int .i64 (if k < x.1.n then x.1.f k else -77177), true, false, y.2.2, 3, false, none⟩]) 1
theorem lend_ok : EcOk Tryd.prog 21 lend := by
  refine ecC_run (fun _ => EK_ok) Tryd.func21 rfl (by kernel_rfl) []
    (fun x => []) (fun _ => Nat.le_of_ble_eq_true rfl) (fun ⟨⟨b, off, n, c, z, f⟩, ()⟩ hp hw => ?_)
  refine vc_of (q :=
      (z = Bool.true → ∃ (x1 : Nat × Nat × Nat), Eng.SVeq (Eng.SV.slice (999999 : Nat) (0 : Nat) (0 : Nat) [] (0 : Nat) (0 : Nat) (0 : Nat) (0 : Nat) Bool.true) (Eng.SV.slice (1 : Nat) (Prod.fst x1) (Prod.fst (Prod.snd x1)) [] (1 : Nat) (0 : Nat) n (Prod.snd (Prod.snd x1)) Bool.false) ∧ (Bool.false = Bool.true ∧ n + (1 : Nat) = (0 : Nat) ∧ Prod.snd (Prod.snd x1) = (0 : Nat)) ∧ n + (1 : Nat) ≤ Prod.snd
      (Prod.snd x1) ∧ Prod.snd (Prod.snd x1) ≤ (9223372036854775807 : Nat)) ∧ (z = Bool.false → ∀ (v1 : Int), v1 = (↑n : Int) → ∀ (v2 : Int), v2 = Go.IntKind.wrap Go.IntKind.i64 (v1 + (1 : Int)) → (0 : Int) ≤ (0 : Int) ∧ (0 : Int) ≤ v2 ∧ v2 * (↑(8 : Nat) : Int) ≤ (140737488355328 : Int) ∧ v2 ≤ (9223372036854775807 : Int) ∧ ∀ (b1 : Nat), (b1 = b1 ∧ (0 : Nat) = (0 : Nat)) ∧ (Bool.false = Bool.true →
      Bool.false = Bool.true) ∧ (0 : Nat) = (0 : Nat) ∧ Int.toNat (0 : Int) ≤ Int.toNat v2 ∧ Int.toNat v2 ≤ Int.toNat v2 ∧ (Int.toNat (0 : Int) + n) * (8 : Nat) ≤ (140737488355328 : Nat) ∧ Int.toNat (0 : Int) + n ≤ (9223372036854775807 : Nat) ∧ n ≤ n ∧ (b = b ∧ off = off) ∧ ∀ (b2 b3 b4 : Nat), Int.toNat (0 : Int) + n ≤ b4 → b4 ≤ (9223372036854775807 : Nat) → (Bool.false = Bool.true → n = (0 : Nat) → b4 =
      (0 : Nat)) → ∀ (b5 : Nat), (b2 = b2 ∧ b3 = b3) ∧ ((Bool.false && Decidable.decide (n = (0 : Nat))) = Bool.true → (Bool.false && Decidable.decide (n = (0 : Nat))) = Bool.true) ∧ (0 : Nat) = (0 : Nat) ∧ Int.toNat (0 : Int) + n ≤ Int.toNat (0 : Int) + n ∧ b4 ≤ b4 ∧ (Int.toNat (0 : Int) + n + (1 : Nat)) * (8 : Nat) ≤ (140737488355328 : Nat) ∧ Int.toNat (0 : Int) + n + (1 : Nat) ≤ (9223372036854775807 :
      Nat) ∧ (1 : Nat) ≤ (1 : Nat) ∧ (b5 = b5 ∧ (0 : Nat) = (0 : Nat)) ∧ ∀ (b6 b7 b8 : Nat), Int.toNat (0 : Int) + n + (1 : Nat) ≤ b8 → b8 ≤ (9223372036854775807 : Nat) → ((Bool.false && Decidable.decide (n = (0 : Nat))) = Bool.true → (1 : Nat) = (0 : Nat) → b8 = (0 : Nat)) → ∀ (v3 : Int), v3 = (↑n : Int) → (0 : Int) ≤ v3 ∧ v3 ≤ (↑b8 : Int) ∧ ∃ (x2 : Nat × Nat × Nat), (b6 = Prod.fst x2 ∧ b7 = Prod.fst
      (Prod.snd x2) ∧ (0 : Nat) = (0 : Nat) ∧ Int.toNat v3 = n ∧ b8 = Prod.snd (Prod.snd x2) ∧ (Bool.false && Decidable.decide (n = (0 : Nat)) && Decidable.decide ((1 : Nat) = (0 : Nat))) = Bool.false) ∧ ((b6 = Prod.fst x2 ∧ b7 = Prod.fst (Prod.snd x2) ∧ (Bool.false && Decidable.decide (n = (0 : Nat)) && Decidable.decide ((1 : Nat) = (0 : Nat))) = Bool.false ∧ n + (1 : Nat) ≤ Int.toNat (0 : Int) + n + (1
      : Nat) ∧ n + (1 : Nat) ≤ Prod.snd (Prod.snd x2) ∧ Prod.snd (Prod.snd x2) ≤ b8) ∧ ∀ (i1 : Nat), i1 < n + (1 : Nat) → (if i1 < Int.toNat (0 : Int) + n then if i1 < Int.toNat (0 : Int) then (0 : Int) else f (i1 - Int.toNat (0 : Int)) else (-77177 : Int)) = if i1 < n then f i1 else (-77177 : Int)) ∧ n + (1 : Nat) ≤ Prod.snd (Prod.snd x2) ∧ Prod.snd (Prod.snd x2) ≤ (9223372036854775807 : Nat))) (by kernel_rfl) ?_
  try simp only [eq_self, true_and, and_true, Nat.le_refl, implies_true, forall_const, Bool.false_eq_true, Bool.true_eq_false, reduceCtorEq, false_imp_iff, true_imp_iff, Int.toNat_zero, Int.toNat_natCast, Nat.zero_lt_one, Int.le_refl, allGet]
  obtain ⟨p1, p2, _⟩ := hp
  dsimp only at p1 p2
  have hn : n ≤ c ∧ c ≤ 9223372036854775807 := (hw _ (List.mem_cons_self ..)).2
  refine ⟨fun h => (by rw [p1] at h; cases h), fun _ v1 h1 v2 h2 => ?_⟩
  subst h1
  have h2 : v2 = ((n + 1 : Nat) : Int) := by rw [h2, w64_id (by omega) (by omega)]; rfl
  subst h2
  refine ⟨by omega, by omega, by omega, by omega, by omega, by omega, fun b4 h4 h4' => ⟨fun h => h, by omega, by omega, fun b6 b7 b8 h8 h8' v3 h3 => ?_⟩⟩
  subst h3
  refine ⟨by omega, by omega, (b6, b7, b8), ⟨rfl, rfl, Int.toNat_natCast n, rfl, rfl⟩, ⟨⟨rfl, rfl, rfl, by omega, by show n + 1 ≤ b8; omega, Nat.le_refl _⟩, fun i hi => ?_⟩, by show n + 1 ≤ b8; omega, h8'⟩
  rw [Nat.zero_add]
  by_cases q : i < n
  · rw [if_pos q, if_pos q, if_neg (Nat.not_lt_zero _)]; rfl
  · rw [if_neg q, if_neg q]
abbrev aKept : ArgL (RowD Int × RowD Int × Unit) := .cons (row1 (.int .i64)) (.cons (.row (.int .i64)) .nil)
def keptC := pcOf aKept (fun x => [intsB x.1 x.2.1 = true, x.1.n + 1 ≤ x.1.c, x.1.f x.1.n = -77177]) (fun _ => .bool true)
def EKP : Env := EK.addP 28 intsC
theorem EKP_ok : EnvOk Tryd.prog EKP := EK_ok.addP ints_ok
theorem kept_ok : PcOk Tryd.prog 25 keptC := by
  refine pcOf_run (fun _ => EKP_ok) Tryd.func25 rfl (by kernel_rfl) (fun x => trivial)
    (fun x => []) (fun _ => Nat.le_of_ble_eq_true rfl) (fun ⟨⟨b, off, n, c, z, f⟩, ⟨b2, o2, n2, c2, z2, f2⟩, ()⟩ hp hw => ?_)
  refine vc_of (q :=
      n ≤ n + (1 : Nat) ∧ (∀ (k1 : Nat), k1 < n → Bool.true = Bool.true) ∧ (b = b ∧ off = off) ∧ n2 ≤ n2 ∧ (∀ (k2 : Nat), k2 < n2 → Bool.true = Bool.true) ∧ (b2 = b2 ∧ o2 = o2) ∧ ∀ (t1 : Bool), t1 = Mk.intsB (Eng.RowD.mk b off n c z f) (Eng.RowD.mk b2 o2 n2 c2 z2 f2) → ∀ (v1 : Int), v1 = (↑n2 : Int) → ∀ (v2 : Int), v2 = Go.IntKind.wrap Go.IntKind.i64 (v1 + (1 : Int)) → (z2 = Bool.false ∧ t1 = Bool.true →
      (0 : Int) ≤ v2) ∧ (z2 = Bool.false ∧ t1 = Bool.true → v2 ≤ (↑c : Int)) ∧ ∀ (v3 : Int), v3 = (↑n2 : Int) → (z2 = Bool.false ∧ t1 = Bool.true → (0 : Int) ≤ v3) ∧ (z2 = Bool.false ∧ t1 = Bool.true → v3 < (↑(Int.toNat v2) : Int)) ∧ (z2 = Bool.false ∧ t1 = Bool.true → b = b ∧ off = off) ∧ (z2 = Bool.false ∧ t1 = Bool.true → Int.toNat v3 < n + (1 : Nat)) ∧ ∀ (t2 : Bool), (t2 = if z2 = Bool.true then
      Bool.true else f (Int.toNat v3) == (-77177 : Int)) → ∀ (t3 : Bool), (t3 = if t1 = Bool.true then t2 else Bool.false) → t3 = Bool.true) (by kernel_rfl) ?_
  try simp only [eq_self, true_and, and_true, Nat.le_refl, implies_true, forall_const, Bool.false_eq_true, Bool.true_eq_false, reduceCtorEq, false_imp_iff, true_imp_iff, Int.toNat_zero, Int.toNat_natCast, Nat.zero_lt_one, Int.le_refl, allGet]
  obtain ⟨p1, p2, p3, _⟩ := hp
  dsimp only at p1 p2 p3
  have hn : n ≤ c ∧ c ≤ 9223372036854775807 := (hw _ (List.mem_cons_self ..)).2
  have hnn : n = n2 := by
    unfold intsB at p1
    rw [Bool.and_eq_true] at p1
    exact of_decide_eq_true p1.1
  subst hnn
  refine ⟨by omega, fun t1 h1 v1 hv1 v2 hv2 => ?_⟩
  subst hv1
  have hv2 : v2 = ((n + 1 : Nat) : Int) := by rw [hv2, w64_id (by omega) (by omega)]; rfl
  subst hv2
  refine ⟨fun _ => by omega, fun _ => by omega, fun v3 hv3 => ?_⟩
  subst hv3
  refine ⟨fun _ => by omega, fun _ => by rw [Int.toNat_natCast]; omega, fun _ => by rw [Int.toNat_natCast]; omega, fun t2 h2 t3 h3 => ?_⟩
  rw [h3, h1, p1, if_pos rfl, h2, Int.toNat_natCast, p3]
  split <;> rfl
/-! ### New -/
abbrev aLen : ArgL (Int × Unit) := .cons (.elt (.int .i64)) .nil
def nilL : OwnD Int := ⟨0, 0, 0, 0, true, 0, 0, true, fun _ => 0⟩
def newD (len : Int) (y : (Nat × Nat) × Value) : FV := (y.1.1, 0, ((y.1.2, 0, (0, false, ())), len, nilL, 0, false, 0, 0, y.2, ()))
def newA := ecC aLen (fun x => [1 ≤ x.1, x.1 ≤ 20000]) (fun _ (_ : (Nat × Nat) × Value) => True) (fun x y => .tup (SV.ptr 0 y.1.1 0 [.elt 0 8] :: [.int .i64 0])) (fun x y => aFV.hp 0 (newD x.1 y, ())) 3
theorem newA_ok : EcOk Tryd.prog 17 newA := by
  refine ecC_run (fun _ => E0_ok) Tryd.func17 rfl (by kernel_rfl) [(1, 0)]
    (fun x => []) (fun _ => Nat.le_of_ble_eq_true rfl) (fun ⟨len, ()⟩ hp hw => ?_)
  refine vc_of (q :=
      ∀ (t1 : Bool), (t1 = if Decidable.decide (len < (1 : Int)) = Bool.true then Bool.true else Decidable.decide (len > (20000 : Int))) → (t1 = Bool.true → ∃ (x1 : (Nat × Nat) × Go.Value), (Eng.SVeq (Eng.SV.val (Go.Value.pointer Option.none)) (Eng.SV.ptr (0 : Nat) (Prod.fst (Prod.fst x1)) (0 : Nat) [Eng.PS.elt (0 : Nat) (8 : Nat)]) ∧ (2 : Int) = (0 : Int)) ∧ False) ∧ (t1 = Bool.false → ∀ (b1 b2 : Nat),
      ∃ (x2 : (Nat × Nat) × Go.Value), (((0 : Nat) = (0 : Nat) ∧ b2 = Prod.fst (Prod.fst x2) ∧ (0 : Nat) = (0 : Nat)) ∧ (0 : Int) = (0 : Int)) ∧ ((b2 = Prod.fst (Prod.fst x2) ∧ (0 : Nat) = (0 : Nat) ∧ Bool.false = Bool.false ∧ (1 : Nat) ≤ (1 : Nat) ∧ (1 : Nat) ≤ (1 : Nat) ∧ (1 : Nat) ≤ (1 : Nat)) ∧ ((0 : Nat) = (0 : Nat) ∧ b1 = Prod.snd (Prod.fst x2) ∧ (0 : Nat) = (0 : Nat)) ∧ len = len ∧ Eng.SVeq
      (Eng.SV.slice (999999 : Nat) (0 : Nat) (0 : Nat) [] (0 : Nat) (0 : Nat) (0 : Nat) (0 : Nat) Bool.true) (Eng.SV.slice (2 : Nat) (0 : Nat) (0 : Nat) [] (1 : Nat) (0 : Nat) (0 : Nat) (0 : Nat) Bool.true) ∧ (0 : Int) = (0 : Int) ∧ Bool.false = Bool.false ∧ (0 : Int) = (0 : Int) ∧ (0 : Int) = (0 : Int) ∧ Eng.SVeq (Eng.SV.val Go.Value.nilFunc) (Eng.SV.val (Prod.snd x2))) ∧ ((b1 = Prod.snd (Prod.fst x2) ∧
      (0 : Nat) = (0 : Nat) ∧ Bool.false = Bool.false ∧ (1 : Nat) ≤ (1 : Nat) ∧ (1 : Nat) ≤ (1 : Nat) ∧ (1 : Nat) ≤ (1 : Nat)) ∧ (0 : Int) = (0 : Int) ∧ Bool.false = Bool.false) ∧ (Bool.true = Bool.true ∧ (0 : Nat) = (0 : Nat) ∧ (0 : Nat) = (0 : Nat)) ∧ True)) (by kernel_rfl) ?_
  try simp only [eq_self, true_and, and_true, Nat.le_refl, implies_true, forall_const, Bool.false_eq_true, Bool.true_eq_false, reduceCtorEq, false_imp_iff, true_imp_iff, Int.toNat_zero, Int.toNat_natCast, Nat.zero_lt_one, Int.le_refl, allGet]
  obtain ⟨p1, p2, _⟩ := hp
  dsimp only at p1 p2
  intro t1 h1
  refine ⟨fun h => ?_, fun _ b1 b2 => ⟨((b2, b1), .nilFunc), rfl, ⟨rfl, rfl, nil_eqv rfl rfl rfl, svr _⟩, rfl⟩⟩
  rw [h, if_neg (by simpa using p1)] at h1
  have := of_decide_eq_true h1.symm
  omega
def newRD (len : Int) (y : Nat) : RD := (y, 0, (len, nilL, false, 0, false, 0, 0, ()))
def newRA := ecC aLen (fun x => [1 ≤ x.1, x.1 ≤ 20000]) (fun _ (_ : Nat) => True) (fun x y => .tup (SV.ptr 0 y 0 [.elt 0 7] :: [.int .i64 0])) (fun x y => aRf.hp 0 (newRD x.1 y, ())) 2
theorem newRA_ok : EcOk Tryd.prog 18 newRA := by
  refine ecC_run (fun _ => E0_ok) Tryd.func18 rfl (by kernel_rfl) []
    (fun x => []) (fun _ => Nat.le_of_ble_eq_true rfl) (fun ⟨len, ()⟩ hp hw => ?_)
  refine vc_of (q :=
      ∀ (t1 : Bool), (t1 = if Decidable.decide (len < (1 : Int)) = Bool.true then Bool.true else Decidable.decide (len > (20000 : Int))) → (t1 = Bool.true → ∃ (x1 : Nat), (Eng.SVeq (Eng.SV.val (Go.Value.pointer Option.none)) (Eng.SV.ptr (0 : Nat) x1 (0 : Nat) [Eng.PS.elt (0 : Nat) (7 : Nat)]) ∧ (2 : Int) = (0 : Int)) ∧ (Bool.false = Bool.true ∧ (1 : Nat) = (0 : Nat) ∧ (1 : Nat) = (0 : Nat)) ∧ (Bool.true
      = Bool.true ∧ (0 : Nat) = (0 : Nat) ∧ (0 : Nat) = (0 : Nat)) ∧ True) ∧ (t1 = Bool.false → ∀ (b1 : Nat), ∃ (x2 : Nat), (((0 : Nat) = (0 : Nat) ∧ b1 = x2 ∧ (0 : Nat) = (0 : Nat)) ∧ (0 : Int) = (0 : Int)) ∧ ((b1 = x2 ∧ (0 : Nat) = (0 : Nat) ∧ Bool.false = Bool.false ∧ (1 : Nat) ≤ (1 : Nat) ∧ (1 : Nat) ≤ (1 : Nat) ∧ (1 : Nat) ≤ (1 : Nat)) ∧ len = len ∧ Eng.SVeq (Eng.SV.slice (999999 : Nat) (0 : Nat) (0
      : Nat) [] (0 : Nat) (0 : Nat) (0 : Nat) (0 : Nat) Bool.true) (Eng.SV.slice (1 : Nat) (0 : Nat) (0 : Nat) [] (1 : Nat) (0 : Nat) (0 : Nat) (0 : Nat) Bool.true) ∧ Bool.false = Bool.false ∧ (0 : Int) = (0 : Int) ∧ Bool.false = Bool.false ∧ (0 : Int) = (0 : Int) ∧ (0 : Int) = (0 : Int)) ∧ (Bool.true = Bool.true ∧ (0 : Nat) = (0 : Nat) ∧ (0 : Nat) = (0 : Nat)) ∧ True)) (by kernel_rfl) ?_
  try simp only [eq_self, true_and, and_true, Nat.le_refl, implies_true, forall_const, Bool.false_eq_true, Bool.true_eq_false, reduceCtorEq, false_imp_iff, true_imp_iff, Int.toNat_zero, Int.toNat_natCast, Nat.zero_lt_one, Int.le_refl, allGet]
  obtain ⟨p1, p2, _⟩ := hp
  dsimp only at p1 p2
  intro t1 h1
  refine ⟨fun h => ?_, fun _ b1 => ⟨b1, rfl, rfl, nil_eqv rfl rfl rfl⟩⟩
  rw [h, if_neg (by simpa using p1)] at h1
  have := of_decide_eq_true h1.symm
  omega
/-! ### .. of no length -/
def newB := pcOf aLen (fun x => [x.1 < 1]) (fun _ => .tup [.val (.pointer none), .int .i64 2])
theorem newB_ok : PcOk Tryd.prog 17 newB := by
  refine pcOf_run (fun _ => E0_ok) Tryd.func17 rfl (by kernel_rfl) (fun x => ⟨trivial, trivial, trivial⟩)
    (fun x => []) (fun _ => Nat.le_of_ble_eq_true rfl) (fun ⟨len, ()⟩ hp hw => ?_)
  refine vc_of (q :=
      ∀ (t1 : Bool), (t1 = if Decidable.decide (len < (1 : Int)) = Bool.true then Bool.true else Decidable.decide (len > (20000 : Int))) → (t1 = Bool.true → Eng.SVeq (Eng.SV.val (Go.Value.pointer Option.none)) (Eng.SV.val (Go.Value.pointer Option.none)) ∧ (2 : Int) = (2 : Int)) ∧ (t1 = Bool.false → ∀ (b1 b2 : Nat), Eng.SVeq (Eng.SV.ptr (1 : Nat) b2 (0 : Nat) [Eng.PS.elt (0 : Nat) (8 : Nat)]) (Eng.SV.val
      (Go.Value.pointer Option.none)) ∧ (0 : Int) = (2 : Int))) (by kernel_rfl) ?_
  try simp only [eq_self, true_and, and_true, Nat.le_refl, implies_true, forall_const, Bool.false_eq_true, Bool.true_eq_false, reduceCtorEq, false_imp_iff, true_imp_iff, Int.toNat_zero, Int.toNat_natCast, Nat.zero_lt_one, Int.le_refl, allGet]
  obtain ⟨p1, _⟩ := hp
  dsimp only at p1
  intro t1 h1
  refine ⟨fun _ => svr _, fun h => ?_⟩
  rw [h, if_pos (decide_eq_true p1)] at h1
  cases h1
theorem newRB_ok : PcOk Tryd.prog 18 newB := by
  refine pcOf_run (fun _ => E0_ok) Tryd.func18 rfl (by kernel_rfl) (fun x => ⟨trivial, trivial, trivial⟩)
    (fun x => []) (fun _ => Nat.le_of_ble_eq_true rfl) (fun ⟨len, ()⟩ hp hw => ?_)
  refine vc_of (q :=
      ∀ (t1 : Bool), (t1 = if Decidable.decide (len < (1 : Int)) = Bool.true then Bool.true else Decidable.decide (len > (20000 : Int))) → (t1 = Bool.true → Eng.SVeq (Eng.SV.val (Go.Value.pointer Option.none)) (Eng.SV.val (Go.Value.pointer Option.none)) ∧ (2 : Int) = (2 : Int)) ∧ (t1 = Bool.false → ∀ (b1 : Nat), Eng.SVeq (Eng.SV.ptr (0 : Nat) b1 (0 : Nat) [Eng.PS.elt (0 : Nat) (7 : Nat)]) (Eng.SV.val
      (Go.Value.pointer Option.none)) ∧ (0 : Int) = (2 : Int))) (by kernel_rfl) ?_
  try simp only [eq_self, true_and, and_true, Nat.le_refl, implies_true, forall_const, Bool.false_eq_true, Bool.true_eq_false, reduceCtorEq, false_imp_iff, true_imp_iff, Int.toNat_zero, Int.toNat_natCast, Nat.zero_lt_one, Int.le_refl, allGet]
  obtain ⟨p1, _⟩ := hp
  dsimp only at p1
  intro t1 h1
  refine ⟨fun _ => svr _, fun h => ?_⟩
  rw [h, if_pos (decide_eq_true p1)] at h1
  cases h1
end Mk
