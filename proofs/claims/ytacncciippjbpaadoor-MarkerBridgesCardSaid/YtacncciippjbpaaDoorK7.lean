/-
  OWN WORK. Marker: the laws MarkerMixes, MarkerNone, MarkerPeriod.
-/
import Derived.Test.YtacncciippjbpaaDoorK6
namespace Mk
open Go Go.Proofs Eng
set_option linter.unusedVariables false
set_option linter.unusedSimpArgs false
set_option maxRecDepth 100000
set_option maxHeartbeats 4000000

def EM : Env := ((((((((E0.addP 10 sequ).addP 11 sequ).addP 12 mix).addP 13 mix).addP 14 attach).addP 15 attach).addP 9 awakeC).addP 31 bitC).addQ 4 eqBool
theorem EM_ok : EnvOk Tryd.prog EM := ((((((((E0_ok.addP sequ_ok).addP sequR_ok).addP mix_ok).addP mixR_ok).addP attach_ok).addP attachR_ok).addP awake_ok).addP bit_ok).addQ (eqBool_ok (by kernel_rfl))
theorem bytof_self {f : Nat → Int} {l : List UInt8} (h : ∀ k, k < l.length → f k = ((l.getD k 0).toNat : Int)) : Byt.of f l.length = l := by
  apply List.ext_getElem (bytof_len _ _)
  intro k h1 h2
  have hk : k < l.length := h2
  have e := bytof_getD (f := f) hk (by rw [h k hk]; omega) (by rw [h k hk]; have := u8_lt (l.getD k 0); omega)
  rw [h k hk] at e
  have e2 : ((Byt.of f l.length).getD k 0).toNat = (l.getD k 0).toNat := by omega
  have e3 : (Byt.of f l.length).getD k 0 = l.getD k 0 := UInt8.toNat_inj.1 e2
  simpa [List.getD, h1, h2] using e3
/-- Mix inverts itself. -/
theorem mix_mix {p : List UInt8} (h : p.length ≤ 3000) : mixS (mixS p) = p ∧ mixE (mixS p) = 0 := by
  have h1 : mixS p = Byt.of (mixF p) p.length := if_neg (by omega)
  have hl : (mixS p).length = p.length := by rw [h1, bytof_len]
  refine ⟨?_, if_neg (by omega)⟩
  rw [mixS, if_neg (by omega), hl]
  refine bytof_self fun k hk => ?_
  have lr := reg_lt (8 * k)
  have lu := u8_lt (p.getD k 0)
  have e : (((mixS p).getD k 0).toNat : Int) = mixF p k := by
    rw [h1]
    exact bytof_getD hk (by unfold mixF; omega) (by unfold mixF; have := xor_lt lu lr; omega)
  have e' : ((mixS p).getD k 0).toNat = Nat.xor (p.getD k 0).toNat (reg (8 * k)) := by unfold mixF at e; omega
  unfold mixF
  rw [e']
  have : Nat.xor (Nat.xor (p.getD k 0).toNat (reg (8 * k))) (reg (8 * k)) = (p.getD k 0).toNat := by
    show ((p.getD k 0).toNat ^^^ reg (8 * k)) ^^^ reg (8 * k) = _
    rw [Nat.xor_assoc, Nat.xor_self, Nat.xor_zero]
  rw [this]
abbrev aMix : ArgL (Int × List UInt8 × List UInt8 × Unit) := .cons (.elt (.int .i64)) (.cons (.elt .str) (.cons (.elt .str) .nil))
abbrev MixIn (x : Int × List UInt8 × List UInt8 × Unit) : Prop := inKind .i64 x.1 ∧ x.2.1.length ≤ 140737488351232 ∧ x.2.2.1.length ≤ 140737488351232 ∧ True
theorem mix_walk : ∀ (x : Int × List UInt8 × List UInt8 × Unit) (hR : MixIn x) (hw : ∀ v ∈ aMix.svs 0 x, v.wf), exCode EM Tryd.f3.ntmps [] (match Tryd.f3.body with | some c => c | none => .skip) (argFr 0 (aMix.svs 0 x)) (aMix.hp 0 x) aMix.tags (atEnd EM Tryd.f3.results.toList fun r _ _ => eqv r (.bool true)) := by
  refine fun ⟨n, p, q, ()⟩ hR hw => ?_
  refine vc_of (q :=
      ∀ (v1 : Int), v1 = (↑(List.length p) : Int) → ∀ (v2 : Int), v2 = (↑(List.length q) : Int) → ∀ (t1 : Bool), (t1 = if Decidable.decide (v1 > (3000 : Int)) = Bool.true then Bool.true else Decidable.decide (v2 > (30000 : Int))) → ∀ (t2 : Bool), (t2 = if Decidable.decide (n > (3000 : Int)) = Bool.true then Decidable.decide (n ≤ (65536 : Int)) else Bool.false) → ∀ (t3 : Bool), (t3 = if t1 = Bool.true
      then Bool.true else t2) → (t3 = Bool.true → ∀ (t4 : Bool), t4 = Bool.true → t4 = Bool.true) ∧ (t3 = Bool.false → ∀ (s1 : List UInt8), s1 = Mk.seqS n → ∀ (v3 : Int), v3 = Mk.seqE n → ∀ (s2 : List UInt8), s2 = Mk.seqS n → ∀ (v4 : Int), v4 = Mk.seqE n → ∀ (s3 : List UInt8), s3 = Mk.mixS p → ∀ (v5 : Int), v5 = Mk.mixE p → ∀ (s4 : List UInt8), s4 = Mk.mixS p → ∀ (v6 : Int), v6 = Mk.mixE p → ∀ (s5 : List
      UInt8), s5 = Mk.attL q → ∀ (v7 : Int), v7 = Mk.attE q → ∀ (s6 : List UInt8), s6 = Mk.attL q → ∀ (v8 : Int), v8 = Mk.attE q → ∀ (t5 : Bool), (t5 = if (!s1 == s2) = Bool.true then Bool.true else v3 != v4) → ∀ (t6 : Bool), (t6 = if t5 = Bool.true then Bool.true else !s3 == s4) → ∀ (t7 : Bool), (t7 = if t6 = Bool.true then Bool.true else v5 != v6) → ∀ (t8 : Bool), (t8 = if t7 = Bool.true then Bool.true
      else !s5 == s6) → ∀ (t9 : Bool), (t9 = if t8 = Bool.true then Bool.true else v7 != v8) → (t9 = Bool.true → Bool.false = Bool.true) ∧ (t9 = Bool.false → ∀ (s7 : List UInt8), s7 = Mk.mixS s3 → ∀ (v9 : Int), v9 = Mk.mixE s3 → ∀ (t10 : Bool), (t10 = if (v9 == (0 : Int)) = Bool.true then s7 == p else Bool.false) → ∀ (t11 : Bool), t11 = Bool.true → ∀ (t12 : Bool), (t12 = if t10 = Bool.true then t11 else
      Bool.false) → t12 = Bool.true))) (by kernel_rfl) ?_
  try simp only [eq_self, true_and, and_true, Nat.le_refl, implies_true, forall_const, Bool.false_eq_true, Bool.true_eq_false, reduceCtorEq, false_imp_iff, true_imp_iff, Int.toNat_zero, Int.toNat_natCast, Nat.zero_lt_one, Int.le_refl, allGet]
  intro v1 h1 v2 h2 t1 ht1 t2 ht2 t3 ht3
  refine ⟨fun _ t h => h, fun h3 s1 hs1 v3 hv3 s2 hs2 v4 hv4 s3 hs3 v5 hv5 s4 hs4 v6 hv6 s5 hs5 v7 hv7 s6 hs6 v8 hv8 t5 ht5 t6 ht6 t7 ht7 t8 ht8 t9 ht9 => ?_⟩
  have hp : p.length ≤ 3000 := by
    rw [h3] at ht3
    have a1 : t1 = false := by cases t1 with | false => rfl | true => rw [if_pos rfl] at ht3; cases ht3
    rw [a1, h1] at ht1
    by_cases q : (p.length : Int) > 3000
    · rw [if_pos (decide_eq_true q)] at ht1; cases ht1
    · omega
  obtain ⟨m1, m2⟩ := mix_mix hp
  have e1 : s2 = s1 := hs2.trans hs1.symm
  have e2 : v4 = v3 := hv4.trans hv3.symm
  have e3 : s4 = s3 := hs4.trans hs3.symm
  have e4 : v6 = v5 := hv6.trans hv5.symm
  have e5 : s6 = s5 := hs6.trans hs5.symm
  have e6 : v8 = v7 := hv8.trans hv7.symm
  have e9 : t9 = false := by rw [ht9, ht8, ht7, ht6, ht5, e1, e2, e3, e4, e5, e6]; simp
  refine ⟨fun h => (by rw [e9] at h; cases h), fun _ s7 hs7 v9 hv9 t10 ht10 t11 ht11 t12 ht12 => ?_⟩
  rw [hs3, m1] at hs7
  rw [hs3, m2] at hv9
  rw [ht12, ht11, ht10, hs7, hv9]
  simp
/-! ### MarkerPeriod -/
/-- Are the bits below n those that stand p behind? -/
def perB (p : Nat) : Nat → Bool
  | 0 => true
  | n + 1 => perB p n && (bitF (seqL 128) n == bitF (seqL 128) (n + p))
theorem bitF_seq {i : Nat} (h : i < 1024) : bitF (seqL 128) i = (bitS i : Nat) := by
  have hk : i / 8 < 128 := by omega
  have e : (((seqL 128).getD (i / 8) 0).toNat : Int) = seqF (i / 8) := bytof_getD hk (seqF_nat _).1 (seqF_nat _).2
  have e' : ((seqL 128).getD (i / 8) 0).toNat = reg (8 * (i / 8)) := by unfold seqF at e; omega
  unfold bitF
  rw [e', ← bitS_at _ _ (by omega : i % 8 < 8)]
  have : 8 * (i / 8) + i % 8 = i := by omega
  rw [this]
theorem per_all {p n : Nat} (h : n + p ≤ 1024) (hb : ∀ i, i < n → bitS i = bitS (i + p)) : perB p n = true := by
  induction n with
  | zero => rfl
  | succ n ih =>
    rw [perB, ih (by omega) fun i hi => hb i (by omega), bitF_seq (by omega), bitF_seq (by omega), hb n (by omega)]
    simp
theorem per_none {p n i : Nat} (h : n + p ≤ 1024) (hi : i < n) (hb : bitS i ≠ bitS (i + p)) : perB p n = false := by
  induction n with
  | zero => omega
  | succ n ih =>
    rw [perB]
    by_cases e : i = n
    · subst e
      rw [bitF_seq (by omega), bitF_seq (by omega)]
      have : ((bitS i : Int) == (bitS (i + p) : Int)) = false := by
        rw [beq_eq_false_iff_ne]; omega
      rw [this, Bool.and_false]
    · rw [ih (by omega) (by omega), Bool.false_and]
theorem per_255 (p : Nat) (h1 : 1 ≤ p) (h2 : p ≤ 255) : perB p (1024 - p) = decide (p = 255) := by
  by_cases e : p = 255
  · subst e
    rw [decide_eq_true rfl]
    refine per_all (by omega) fun i _ => ?_
    have h0 : reg 255 = reg 0 := by kernel_rfl
    have : reg (i + 255) = reg i := by
      have a := reg_add 255 i
      have b := reg_add 0 i
      rw [Nat.add_comm, a, h0, ← b, Nat.zero_add]
    unfold bitS
    rw [this]
  · rw [decide_eq_false e]
    have hall : allB (fun p => Nat.beq p 0 || !(allB (fun j => Nat.beq (bitS (p + j)) 1) 8)) 255 = true := by kernel_rfl
    have := allB_true hall p (by omega)
    simp only [Bool.or_eq_true] at this
    rcases this with this | this
    · have := Nat.eq_of_beq_eq_true this; omega
    · by_cases q : ∀ j, j < 8 → bitS (p + j) = 1
      · exfalso
        have : allB (fun j => Nat.beq (bitS (p + j)) 1) 8 = true := by
          have hh : ∀ n, n ≤ 8 → allB (fun j => Nat.beq (bitS (p + j)) 1) n = true := by
            intro n
            induction n with
            | zero => intro _; rfl
            | succ n ih =>
              intro hn
              rw [allB, ih (by omega), q n (by omega)]
              rfl
          exact hh 8 (Nat.le_refl _)
        simp_all
      · have ⟨j, hj⟩ := Classical.not_forall.1 q
        have ⟨hj8, hne⟩ := Classical.not_imp.1 hj
        refine per_none (i := j) (by omega) (by omega) ?_
        rw [bit_first j hj8, Nat.add_comm]
        exact fun h => hne h.symm
theorem per_walk : ∀ (x : Unit) (hR : True) (hw : ∀ v ∈ ArgL.nil.svs 0 x, v.wf), exCode EM Tryd.f8.ntmps [.lp 5 Nat [1, 3] (fun p => [.str (seqL 128), .int .i64 (p : Nat)]) (fun p => 1 ≤ p ∧ p ≤ 256) (fun p => 256 - p), .nest ⟨9, Nat × Nat, [1, 3, 4, 5], fun y => [.str (seqL 128), .int .i64 (y.1 : Nat), .bool (perB y.1 y.2), .int .i64 (y.2 : Nat)], [], fun _ => [], fun y => 1 ≤ y.1 ∧ y.1 ≤ 255 ∧ y.1 + y.2 ≤ 1024, fun y => 1024 - y.2⟩] (match Tryd.f8.body with | some c => c | none => .skip) (argFr 0 (ArgL.nil.svs 0 x)) (ArgL.nil.hp 0 x) ArgL.nil.tags (atEnd EM Tryd.f8.results.toList fun r _ _ => eqv r (.bool true)) := by
  refine fun x hR hw => ?_
  refine vc_of (q :=
      ∀ (s1 : List UInt8), s1 = Mk.seqS (128 : Int) → ∀ (v1 : Int), v1 = Mk.seqE (128 : Int) → ∀ (v2 : Int), v2 = (↑(List.length s1) : Int) → ∀ (t1 : Bool), (t1 = if (v1 != (0 : Int)) = Bool.true then Bool.true else v2 != (128 : Int)) → (t1 = Bool.true → Bool.false = Bool.true) ∧ (t1 = Bool.false → (∃ (x1 : Nat), s1 = Mk.seqL (128 : Nat) ∧ (1 : Int) = (↑x1 : Int) ∧ (1 : Nat) ≤ x1 ∧ x1 ≤ (256 : Nat)) ∧ ∀
      (b1 : Nat), (1 : Nat) ≤ b1 ∧ b1 ≤ (256 : Nat) → (Decidable.decide ((↑b1 : Int) ≤ (255 : Int)) = Bool.true → (∃ (x2 : Nat × Nat), Mk.seqL (128 : Nat) = Mk.seqL (128 : Nat) ∧ (↑b1 : Int) = (↑(Prod.fst x2) : Int) ∧ Bool.true = Mk.perB (Prod.fst x2) (Prod.snd x2) ∧ (0 : Int) = (↑(Prod.snd x2) : Int) ∧ (1 : Nat) ≤ Prod.fst x2 ∧ Prod.fst x2 ≤ (255 : Nat) ∧ Prod.fst x2 + Prod.snd x2 ≤ (1024 : Nat)) ∧ ∀
      (x3 : Nat × Nat), (1 : Nat) ≤ Prod.fst x3 ∧ Prod.fst x3 ≤ (255 : Nat) ∧ Prod.fst x3 + Prod.snd x3 ≤ (1024 : Nat) → Mk.seqL (128 : Nat) = Mk.seqL (128 : Nat) → (↑b1 : Int) = (↑(Prod.fst x3) : Int) → ∀ (v3 : Int), v3 = Go.IntKind.wrap Go.IntKind.i64 ((↑(Prod.snd x3) : Int) + (↑(Prod.fst x3) : Int)) → ∀ (v4 : Int), v4 = (↑(List.length (Mk.seqL (128 : Nat))) : Int) → ∀ (v5 : Int), v5 = Go.IntKind.wrap
      Go.IntKind.i64 ((8 : Int) * v4) → (Decidable.decide (v3 < v5) = Bool.true → (Mk.perB (Prod.fst x3) (Prod.snd x3) = Bool.true → (0 : Int) ≤ (↑(Prod.snd x3) : Int)) ∧ (Mk.perB (Prod.fst x3) (Prod.snd x3) = Bool.true → (↑(Prod.snd x3) : Int) < (8 : Int) * (↑(List.length (Mk.seqL (128 : Nat))) : Int)) ∧ (Mk.perB (Prod.fst x3) (Prod.snd x3) = Bool.true → List.length (Mk.seqL (128 : Nat)) ≤ (65536 :
      Nat)) ∧ ∀ (v6 : Int), v6 = Mk.bitF (Mk.seqL (128 : Nat)) (Int.toNat (↑(Prod.snd x3) : Int)) → ∀ (v7 : Int), v7 = Go.IntKind.wrap Go.IntKind.i64 ((↑(Prod.snd x3) : Int) + (↑(Prod.fst x3) : Int)) → (Mk.perB (Prod.fst x3) (Prod.snd x3) = Bool.true → (0 : Int) ≤ v7) ∧ (Mk.perB (Prod.fst x3) (Prod.snd x3) = Bool.true → v7 < (8 : Int) * (↑(List.length (Mk.seqL (128 : Nat))) : Int)) ∧ (Mk.perB (Prod.fst
      x3) (Prod.snd x3) = Bool.true → List.length (Mk.seqL (128 : Nat)) ≤ (65536 : Nat)) ∧ ∀ (v8 : Int), v8 = Mk.bitF (Mk.seqL (128 : Nat)) (Int.toNat v7) → ∀ (t2 : Bool), (t2 = if Mk.perB (Prod.fst x3) (Prod.snd x3) = Bool.true then v6 == v8 else Bool.false) → ∀ (v9 : Int), v9 = Go.IntKind.wrap Go.IntKind.i64 ((↑(Prod.snd x3) : Int) + (1 : Int)) → ∃ (x4 : Nat × Nat), Mk.seqL (128 : Nat) = Mk.seqL (128 :
      Nat) ∧ (↑(Prod.fst x3) : Int) = (↑(Prod.fst x4) : Int) ∧ t2 = Mk.perB (Prod.fst x4) (Prod.snd x4) ∧ v9 = (↑(Prod.snd x4) : Int) ∧ ((1 : Nat) ≤ Prod.fst x4 ∧ Prod.fst x4 ≤ (255 : Nat) ∧ Prod.fst x4 + Prod.snd x4 ≤ (1024 : Nat)) ∧ (1024 : Nat) - Prod.snd x4 < (1024 : Nat) - Prod.snd x3) ∧ (Decidable.decide (v3 < v5) = Bool.false → ((!Mk.perB (Prod.fst x3) (Prod.snd x3) == ((↑(Prod.fst x3) : Int) ==
      (255 : Int))) = Bool.true → Bool.false = Bool.true) ∧ ((!Mk.perB (Prod.fst x3) (Prod.snd x3) == ((↑(Prod.fst x3) : Int) == (255 : Int))) = Bool.false → ∀ (v7 : Int), v7 = Go.IntKind.wrap Go.IntKind.i64 ((↑(Prod.fst x3) : Int) + (1 : Int)) → ∃ (x4 : Nat), Mk.seqL (128 : Nat) = Mk.seqL (128 : Nat) ∧ v7 = (↑x4 : Int) ∧ ((1 : Nat) ≤ x4 ∧ x4 ≤ (256 : Nat)) ∧ (256 : Nat) - x4 < (256 : Nat) - b1))) ∧
      (Decidable.decide ((↑b1 : Int) ≤ (255 : Int)) = Bool.false → ∀ (t2 : Bool), t2 = Bool.true → t2 = Bool.true))) (by kernel_rfl) ?_
  try simp only [eq_self, true_and, and_true, Nat.le_refl, implies_true, forall_const, Bool.false_eq_true, Bool.true_eq_false, reduceCtorEq, false_imp_iff, true_imp_iff, Int.toNat_zero, Int.toNat_natCast, Nat.zero_lt_one, Int.le_refl, allGet]
  intro s1 hs1 v1 hv1 v2 hv2 t1 ht1
  have es : s1 = seqL 128 := by rw [hs1]; exact seqS_of (n := 128) (by omega)
  have hlen : (seqL 128).length = 128 := bytof_len _ _
  have ev : v1 = 0 := by rw [hv1]; exact seqE_of (n := 128) (by omega)
  have ev2 : v2 = 128 := by rw [hv2, es, hlen]; rfl
  subst ev ev2
  subst ht1
  rw [hlen]
  refine ⟨fun h => (by cases h), fun _ => ⟨⟨1, es, rfl, by omega, by omega⟩, fun p hp => ⟨fun hlt => ⟨⟨(p, 0), rfl, rfl, rfl, hp.1, by have := of_decide_eq_true hlt; show p ≤ 255; omega, by show p + 0 ≤ 1024; omega⟩, ?_⟩, fun _ t h => h⟩⟩⟩
  rintro ⟨p', i⟩ ⟨a1, a2, a3⟩ hpp v3 hv3 v4 hv4 v5 hv5
  dsimp only at a1 a2 a3 hpp hv3
  obtain rfl : p = p' := by omega
  have e3 : v3 = ((i + p : Nat) : Int) := by rw [hv3, w64_id (by omega) (by omega)]; omega
  have e5 : v5 = 1024 := by rw [hv5, hv4]; decide +kernel
  subst e3 e5
  refine ⟨fun hlt2 => ⟨fun _ => by dsimp only; omega, fun _ => ?_, fun _ => by omega, fun v6 hv6 v7 hv7 => ?_⟩, fun hge => ?_⟩
  · have := of_decide_eq_true hlt2
    dsimp only
    omega
  · have hlt2 := of_decide_eq_true hlt2
    have e7 : v7 = ((i + p : Nat) : Int) := by rw [hv7]; dsimp only; rw [w64_id (by omega) (by omega)]; omega
    subst e7
    refine ⟨fun _ => by omega, fun _ => by omega, fun _ => by omega, fun v8 hv8 t2 ht2 v9 hv9 => ⟨(p, i + 1), rfl, ?_, hv9.trans (l_succ (by dsimp only; omega)), ⟨a1, a2, by show p + (i + 1) ≤ 1024; omega⟩, by show 1024 - (i + 1) < 1024 - i; omega⟩⟩
    rw [toNat_nat] at hv8
    rw [ht2, hv6, hv8]
    show _ = perB p (i + 1)
    rw [perB]
    cases perB p i <;> rfl
  · have hge := of_decide_eq_false hge
    have ei : i = 1024 - p := by omega
    have hper := per_255 p a1 a2
    rw [← ei] at hper
    have hx : (!perB p i == ((p : Int) == 255)) = false := by
      rw [hper]
      by_cases q : p = 255
      · subst q; rfl
      · rw [decide_eq_false q]
        have : ((p : Int) == 255) = false := by rw [beq_eq_false_iff_ne]; omega
        rw [this]; rfl
    exact ⟨fun h => absurd (hx.symm.trans h) (by decide), fun _ v7 hv7 => ⟨p + 1, hv7.trans (l_succ (by omega)), ⟨by omega, by omega⟩, by omega⟩⟩
/-! ### MarkerNone -/
def EN1 : Env := (EM.addQ 31 eqPt).addQ 59 eqPt
theorem EN1_ok : EnvOk Tryd.prog EN1 := (EM_ok.addQ (eqPt_ok (by kernel_rfl))).addQ (eqPt_ok (by kernel_rfl))
def EN2 : Env := EN1.inl 35 Tryd.f35 fun _ _ => [.raw 1, .sure 1]
theorem EN2_ok : EnvOk Tryd.prog EN2 := EN1_ok.inl _ Tryd.func35 rfl (by kernel_rfl)
def EN : Env := (((EN2.inl 22 Tryd.f22 fun _ _ => [.raw 1, .det 2]).inl 26 Tryd.f26 fun _ _ => [.raw 1, .sure 1]).inl 27 Tryd.f27 fun _ _ => [.raw 1, .det 2]).inl 17 Tryd.f17 fun _ _ => []
theorem EN_ok : EnvOk Tryd.prog EN := (((EN2_ok.inl _ Tryd.func22 rfl (by kernel_rfl)).inl _ Tryd.func26 rfl (by kernel_rfl)).inl _ Tryd.func27 rfl (by kernel_rfl)).inl _ Tryd.func17 rfl (by kernel_rfl)
abbrev aNone : ArgL (RowD Int × Int × Unit) := .cons (.row (.int .i64)) (.cons (.elt (.int .i64)) .nil)
abbrev NoneIn (x : RowD Int × Int × Unit) : Prop := (x.1.n ≤ x.1.c ∧ x.1.c * 8 ≤ 140737488351232 ∧ ∀ i, i < x.1.n → inKind .i64 (x.1.f i)) ∧ inKind .i64 x.2.1 ∧ True
theorem none_walk : ∀ (x : RowD Int × Int × Unit) (hR : NoneIn x) (hw : ∀ v ∈ aNone.svs 0 x, v.wf), exCode EN Tryd.f7.ntmps [.unroll 5 3, .raw 4, .raw 5, .raw 6, .raw 7, .raw 8, .sure 8, .det 0, .det 9] (match Tryd.f7.body with | some c => c | none => .skip) (argFr 0 (aNone.svs 0 x)) (aNone.hp 0 x) aNone.tags (atEnd EN Tryd.f7.results.toList fun r _ _ => eqv r (.bool true)) := by
  refine fun ⟨⟨b, off, m, c, z, f⟩, n, ()⟩ hR hw => ?_
  refine vc_of (q :=
      ∀ (v1 : Int), v1 = (↑m : Int) → (Decidable.decide (v1 > (1000 : Int)) = Bool.true → ∀ (t1 : Bool), t1 = Bool.true → t1 = Bool.true) ∧ (Decidable.decide (v1 > (1000 : Int)) = Bool.false → ∀ (b1 b2 : Nat), (0 : Int) ≤ (0 : Int) ∧ (0 : Int) < (↑(2 : Nat) : Int) ∧ (b2 = b2 ∧ (0 : Nat) = (0 : Nat)) ∧ Int.toNat (0 : Int) < (2 : Nat) ∧ ((if ((↑(0 : Nat) : Int) != (0 : Int)) = Bool.true then Bool.true else
      (1 : Int) != (1 : Int)) = Bool.false → (0 : Int) ≤ (0 : Int)) ∧ ((if ((↑(0 : Nat) : Int) != (0 : Int)) = Bool.true then Bool.true else (1 : Int) != (1 : Int)) = Bool.false → (0 : Int) < (↑(2 : Nat) : Int)) ∧ ((if ((↑(0 : Nat) : Int) != (0 : Int)) = Bool.true then Bool.true else (1 : Int) != (1 : Int)) = Bool.false → b2 = b2 ∧ (0 : Nat) = (0 : Nat)) ∧ ((if ((↑(0 : Nat) : Int) != (0 : Int)) =
      Bool.true then Bool.true else (1 : Int) != (1 : Int)) = Bool.false → Int.toNat (0 : Int) < (2 : Nat)) ∧ ((if (if ((↑(0 : Nat) : Int) != (0 : Int)) = Bool.true then Bool.true else (1 : Int) != (1 : Int)) = Bool.true then Bool.true else if (!if Bool.true = Bool.true then Bool.true else Bool.false) = Bool.true then Bool.false else Bool.false) = Bool.false → (0 : Int) ≤ (0 : Int)) ∧ ((if (if ((↑(0 :
      Nat) : Int) != (0 : Int)) = Bool.true then Bool.true else (1 : Int) != (1 : Int)) = Bool.true then Bool.true else if (!if Bool.true = Bool.true then Bool.true else Bool.false) = Bool.true then Bool.false else Bool.false) = Bool.false → (0 : Int) < (↑(2 : Nat) : Int)) ∧ ((if (if ((↑(0 : Nat) : Int) != (0 : Int)) = Bool.true then Bool.true else (1 : Int) != (1 : Int)) = Bool.true then Bool.true else
      if (!if Bool.true = Bool.true then Bool.true else Bool.false) = Bool.true then Bool.false else Bool.false) = Bool.false → b2 = b2 ∧ (0 : Nat) = (0 : Nat)) ∧ ((if (if ((↑(0 : Nat) : Int) != (0 : Int)) = Bool.true then Bool.true else (1 : Int) != (1 : Int)) = Bool.true then Bool.true else if (!if Bool.true = Bool.true then Bool.true else Bool.false) = Bool.true then Bool.false else Bool.false) =
      Bool.false → Int.toNat (0 : Int) < (2 : Nat)) ∧ (0 : Int) ≤ Go.IntKind.wrap Go.IntKind.i64 ((0 : Int) + (1 : Int)) ∧ Go.IntKind.wrap Go.IntKind.i64 ((0 : Int) + (1 : Int)) < (↑(2 : Nat) : Int) ∧ (b2 = b2 ∧ (0 : Nat) = (0 : Nat)) ∧ Int.toNat (Go.IntKind.wrap Go.IntKind.i64 ((0 : Int) + (1 : Int))) < (2 : Nat) ∧ (Bool.false = Bool.false → b1 = b1 ∧ (0 : Nat) = (0 : Nat)) ∧ ((if ((↑(0 : Nat) : Int) !=
      (0 : Int)) = Bool.true then Bool.true else (1 : Int) != (1 : Int)) = Bool.false → (0 : Int) ≤ Go.IntKind.wrap Go.IntKind.i64 ((0 : Int) + (1 : Int))) ∧ ((if ((↑(0 : Nat) : Int) != (0 : Int)) = Bool.true then Bool.true else (1 : Int) != (1 : Int)) = Bool.false → Go.IntKind.wrap Go.IntKind.i64 ((0 : Int) + (1 : Int)) < (↑(2 : Nat) : Int)) ∧ ((if ((↑(0 : Nat) : Int) != (0 : Int)) = Bool.true then
      Bool.true else (1 : Int) != (1 : Int)) = Bool.false → b2 = b2 ∧ (0 : Nat) = (0 : Nat)) ∧ ((if ((↑(0 : Nat) : Int) != (0 : Int)) = Bool.true then Bool.true else (1 : Int) != (1 : Int)) = Bool.false → Int.toNat (Go.IntKind.wrap Go.IntKind.i64 ((0 : Int) + (1 : Int))) < (2 : Nat)) ∧ (Bool.false = Bool.false → b1 = b1 ∧ (0 : Nat) = (0 : Nat)) ∧ ((if (if ((↑(0 : Nat) : Int) != (0 : Int)) = Bool.true
      then Bool.true else (1 : Int) != (1 : Int)) = Bool.true then Bool.true else if (!if Bool.false = Bool.true then Bool.true else Bool.true) = Bool.true then Bool.false else Bool.false) = Bool.false → (0 : Int) ≤ Go.IntKind.wrap Go.IntKind.i64 ((0 : Int) + (1 : Int))) ∧ ((if (if ((↑(0 : Nat) : Int) != (0 : Int)) = Bool.true then Bool.true else (1 : Int) != (1 : Int)) = Bool.true then Bool.true else if
      (!if Bool.false = Bool.true then Bool.true else Bool.true) = Bool.true then Bool.false else Bool.false) = Bool.false → Go.IntKind.wrap Go.IntKind.i64 ((0 : Int) + (1 : Int)) < (↑(2 : Nat) : Int)) ∧ ((if (if ((↑(0 : Nat) : Int) != (0 : Int)) = Bool.true then Bool.true else (1 : Int) != (1 : Int)) = Bool.true then Bool.true else if (!if Bool.false = Bool.true then Bool.true else Bool.true) =
      Bool.true then Bool.false else Bool.false) = Bool.false → b2 = b2 ∧ (0 : Nat) = (0 : Nat)) ∧ ((if (if ((↑(0 : Nat) : Int) != (0 : Int)) = Bool.true then Bool.true else (1 : Int) != (1 : Int)) = Bool.true then Bool.true else if (!if Bool.false = Bool.true then Bool.true else Bool.true) = Bool.true then Bool.false else Bool.false) = Bool.false → Int.toNat (Go.IntKind.wrap Go.IntKind.i64 ((0 : Int) +
      (1 : Int))) < (2 : Nat)) ∧ (Bool.false = Bool.false → b1 = b1 ∧ (0 : Nat) = (0 : Nat)) ∧ ∀ (t2 : Bool), (t2 = if Decidable.decide (n < (1 : Int)) = Bool.true then Bool.true else Decidable.decide (n > (20000 : Int))) → (t2 = Bool.true → ∀ (v2 : Int), v2 = (2 : Int) → ∀ (t3 : Bool), (t3 = if Decidable.decide (n ≥ (1 : Int)) = Bool.true then Decidable.decide (n ≤ (20000 : Int)) else Bool.false) → ∀
      (t4 : Bool), (t4 = if ((v2 == (0 : Int)) == t3) = Bool.true then (!Bool.true) == (v2 == (0 : Int)) else Bool.false) → ∀ (t5 : Bool), (t5 = if (v2 == (0 : Int)) = Bool.true then Bool.true else v2 == (2 : Int)) → ∀ (t6 : Bool), (t6 = if t4 = Bool.true then t5 else Bool.false) → ∀ (t7 : Bool), t7 = Bool.true → ∀ (t8 : Bool), (t8 = if t6 = Bool.true then t7 else Bool.false) → t8 = Bool.true) ∧ (t2 =
      Bool.false → ∀ (b3 b4 : Nat) (v3 : Int), v3 = (0 : Int) → ∀ (t3 : Bool), (t3 = if Decidable.decide (n ≥ (1 : Int)) = Bool.true then Decidable.decide (n ≤ (20000 : Int)) else Bool.false) → ∀ (t4 : Bool), (t4 = if ((v3 == (0 : Int)) == t3) = Bool.true then (!Bool.false) == (v3 == (0 : Int)) else Bool.false) → ∀ (t5 : Bool), (t5 = if (v3 == (0 : Int)) = Bool.true then Bool.true else v3 == (2 : Int)) →
      ∀ (t6 : Bool), (t6 = if t4 = Bool.true then t5 else Bool.false) → ∀ (t7 : Bool), t7 = Bool.true → ∀ (t8 : Bool), (t8 = if t6 = Bool.true then t7 else Bool.false) → t8 = Bool.true))) (by kernel_rfl) ?_
  try simp only [eq_self, true_and, and_true, Nat.le_refl, implies_true, forall_const, Bool.false_eq_true, Bool.true_eq_false, reduceCtorEq, false_imp_iff, true_imp_iff, Int.toNat_zero, Int.toNat_natCast, Nat.zero_lt_one, Int.le_refl, allGet]
  intro v1 hv1
  refine ⟨fun _ t h => h, fun _ => ?_⟩
  have w1 : IntKind.i64.wrap (0 + 1) = 1 := by decide +kernel
  rw [w1]
  refine ⟨by decide, by decide, fun _ => by decide, fun _ => by decide, fun _ => by decide, fun _ => by decide, by decide, by decide, by decide, fun _ => by decide, fun _ => by decide, fun _ => by decide, fun _ => by decide, fun _ => by decide, fun _ => by decide, fun t2 ht2 => ?_⟩
  have hr : (t2 = true → ¬ (1 ≤ n ∧ n ≤ 20000)) ∧ (t2 = false → 1 ≤ n ∧ n ≤ 20000) := by
    by_cases q : n < 1
    · rw [if_pos (decide_eq_true q)] at ht2
      rw [ht2]; exact ⟨fun _ => by omega, fun h => by cases h⟩
    · rw [if_neg (by simpa using q)] at ht2
      rw [ht2]
      refine ⟨fun h => ?_, fun h => ?_⟩
      · have := of_decide_eq_true h; omega
      · have := of_decide_eq_false h; omega
  have h3 : ∀ t3 : Bool, (t3 = if decide (n ≥ 1) = true then decide (n ≤ 20000) else false) → (t3 = true ↔ 1 ≤ n ∧ n ≤ 20000) := by
    intro t3 h
    rw [h]
    by_cases q : n ≥ 1
    · rw [if_pos (decide_eq_true q), decide_eq_true_iff]; omega
    · rw [if_neg (by simpa using q)]
      exact ⟨fun h => (by cases h), fun h => by omega⟩
  refine ⟨fun h v2 hv2 t3 ht3 t4 ht4 t5 ht5 t6 ht6 t7 ht7 t8 ht8 => ?_, fun h v2 hv2 t3 ht3 t4 ht4 t5 ht5 t6 ht6 t7 ht7 t8 ht8 => ?_⟩
  · have e3 : t3 = false := by
      cases t3 with
      | false => rfl
      | true => exact absurd ((h3 _ ht3).1 rfl) (hr.1 h)
    rw [ht8, ht7, ht6, ht5, ht4, e3, hv2]
    rfl
  · have e3 : t3 = true := (h3 _ ht3).2 (hr.2 h)
    rw [ht8, ht7, ht6, ht5, ht4, e3, hv2]
    rfl
/-! ### the arguments, opened -/
def plainTy (P : Program) (t : TypeId) : Bool := match P.underlying t with
  | some (.struct _) => false
  | some (.array _ _) => false
  | _ => true
theorem notStruct {P : Program} {t : TypeId} (h : plainTy P t = true) : ∀ fs, P.underlying t ≠ some (.struct fs) := by
  intro fs hh; unfold plainTy at h; rw [hh] at h; cases h
theorem notArray {P : Program} {t : TypeId} (h : plainTy P t = true) : ∀ n e, P.underlying t ≠ some (.array n e) := by
  intro n e hh; unfold plainTy at h; rw [hh] at h; cases h
section
variable {H : Type} {enc : TypeId × Value → H}
theorem mixTop (W : World) (base : Nat) : OpTop enc Tryd.prog W base Tryd.f3.params.toList aMix MixIn :=
  .cons (.elt (ct := [3]) (.int (by kernel_rfl) (by kernel_rfl)) (by kernel_rfl)) (.inr ⟨notStruct (by kernel_rfl), notArray (by kernel_rfl), rfl, fun _ _ => rfl⟩)
    (.cons (.elt (ct := [9]) (.str (by kernel_rfl) (by kernel_rfl)) (by kernel_rfl)) (.inr ⟨notStruct (by kernel_rfl), notArray (by kernel_rfl), rfl, fun _ _ => rfl⟩)
    (.cons (.elt (ct := [9]) (.str (by kernel_rfl) (by kernel_rfl)) (by kernel_rfl)) (.inr ⟨notStruct (by kernel_rfl), notArray (by kernel_rfl), rfl, fun _ _ => rfl⟩) .nil))
theorem perTop (W : World) (base : Nat) : OpTop enc Tryd.prog W base Tryd.f8.params.toList ArgL.nil (fun _ => True) := .nil
theorem noneTop (W : World) (base : Nat) : OpTop enc Tryd.prog W base Tryd.f7.params.toList aNone NoneIn :=
  .cons (.row (e := 3) (by kernel_rfl) (.int (by kernel_rfl) (by kernel_rfl)) (by kernel_rfl) (by kernel_rfl)) (.inr ⟨notStruct (by kernel_rfl), notArray (by kernel_rfl), rfl, fun _ _ => rfl⟩)
    (.cons (.elt (ct := [3]) (.int (by kernel_rfl) (by kernel_rfl)) (by kernel_rfl)) (.inr ⟨notStruct (by kernel_rfl), notArray (by kernel_rfl), rfl, fun _ _ => rfl⟩) .nil)
end
end Mk
