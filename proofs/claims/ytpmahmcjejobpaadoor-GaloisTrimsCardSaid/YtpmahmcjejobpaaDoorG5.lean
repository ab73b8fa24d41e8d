/-
  OWN WORK. Galois: sums, derivatives, values.
-/
import Derived.Test.YtpmahmcjejobpaaDoorG4
namespace Galois
open Go Go.Proofs Eng
set_option linter.unusedVariables false
set_option linter.unusedSimpArgs false
set_option maxHeartbeats 4000000
set_option maxRecDepth 100000

/-! ### polynomials as functions -/
def co (p : List UInt8) (k : Nat) : Nat := (p.getD k 0).toNat
theorem co_lt (p : List UInt8) (k : Nat) : co p k < 256 := (p.getD k 0).toNat_lt
theorem co_over {p : List UInt8} {k : Nat} (h : p.length ≤ k) : co p k = 0 := by
  simp [co, List.getD, List.getElem?_eq_none h]
def ofN (F : Nat → Nat) (n : Nat) : List UInt8 := Byt.of (fun k => (F k : Int)) n
def spr (F : Nat → Nat) (p : List UInt8) (at' c : Nat) : Nat → Nat := fun k => if at' ≤ k then Nat.xor (F k) (gmul c (co p (k - at'))) else F k
theorem spr_lt {F : Nat → Nat} (h : ∀ k, F k < 256) (p : List UInt8) (at' : Nat) {c : Nat} (hc : c < 256) (k : Nat) : spr F p at' c k < 256 := by
  unfold spr
  split
  · exact xor_lt (h k) (gmul_lt hc)
  · exact h k
theorem sprF_nat {F : Nat → Nat} (h : ∀ k, F k < 256) (p : List UInt8) (at' : Nat) {c : Nat} (hc : c < 256) : sprF (fun k => (F k : Int)) p at' (c : Int) p.length = fun k => (spr F p at' c k : Int) := by
  funext k
  unfold sprF spr
  by_cases h1 : at' ≤ k
  · rw [if_pos h1]
    by_cases h2 : k < at' + p.length
    · rw [if_pos ⟨h1, h2⟩]
      exact xr_nat (h k) (gmul_lt (b := co p (k - at')) hc)
    · rw [if_neg (by omega), co_over (by omega), gmul_zero, xor0]
  · rw [if_neg h1, if_neg (by omega)]
theorem byt_congr {f g : Nat → Int} {n : Nat} (h : ∀ k, k < n → f k = g k) : Byt.of f n = Byt.of g n := by
  unfold Byt.of
  exact List.map_congr_left fun k hk => by rw [h k (List.mem_range.1 hk)]
theorem byt_len (f : Nat → Int) (n : Nat) : (Byt.of f n).length = n := by simp [Byt.of]
theorem byt_get {F : Nat → Nat} {n k : Nat} (h : ∀ k, F k < 256) (hk : k < n) : co (ofN F n) k = F k := by
  unfold co ofN Byt.of
  simp [List.getD, hk]
  exact h k

/-- The length without zeros at the end. -/
def tl (F : Nat → Nat) : Nat → Nat
  | 0 => 0
  | n + 1 => if F n = 0 then tl F n else n + 1
theorem tl_le (F : Nat → Nat) : ∀ n, tl F n ≤ n
  | 0 => Nat.le_refl 0
  | n + 1 => by
    simp only [tl]
    split
    · have := tl_le F n; omega
    · exact Nat.le_refl _
theorem tl_congr {F G : Nat → Nat} : ∀ n, (∀ k, k < n → F k = G k) → tl F n = tl G n
  | 0, _ => rfl
  | n + 1, h => by simp only [tl, h n (by omega), tl_congr n fun k hk => h k (by omega)]
theorem tl_more {G : Nat → Nat} (n : Nat) : ∀ m, n ≤ m → (∀ k, n ≤ k → k < m → G k = 0) → tl G m = tl G n
  | 0, h, _ => by obtain rfl : n = 0 := by omega
                  rfl
  | m + 1, h, hz => by
    by_cases e : n = m + 1
    · rw [e]
    · simp only [tl]
      rw [if_pos (hz m (by omega) (by omega)), tl_more n m (by omega) fun k h1 h2 => hz k h1 (by omega)]
theorem tl_ne {F : Nat → Nat} : ∀ {n : Nat}, 0 < tl F n → F (tl F n - 1) ≠ 0
  | 0, h => by simp only [tl] at h; omega
  | n + 1, h => by
    simp only [tl] at h ⊢
    split
    · rename_i hz; rw [if_pos hz] at h; exact tl_ne h
    · rename_i hz; exact hz
theorem tl_zero {F : Nat → Nat} : ∀ {n k : Nat}, tl F n ≤ k → k < n → F k = 0
  | 0, k, _, h => by omega
  | n + 1, k, h1, h2 => by
    simp only [tl] at h1
    split at h1
    · rename_i hz
      by_cases e : k = n
      · rw [e]; exact hz
      · exact tl_zero h1 (by omega)
    · omega
theorem tlenA_eq {l : List UInt8} : ∀ n, tlenA l n = tl (co l) n
  | 0 => rfl
  | n + 1 => by
    simp only [tlenA, tl]
    rw [tlenA_eq n]
    have : (l.getD n 0 = 0) ↔ co l n = 0 := by
      unfold co
      constructor
      · intro h; rw [h]; rfl
      · intro h; exact UInt8.toNat_inj.1 h
    by_cases h : l.getD n 0 = 0
    · rw [if_pos h, if_pos (this.1 h)]
    · rw [if_neg h, if_neg (fun h' => h (this.2 h'))]
theorem list_ext {l m : List UInt8} (h1 : l.length = m.length) (h2 : ∀ k, k < l.length → co l k = co m k) : l = m := by
  apply List.ext_getElem h1
  intro k h3 h4
  have := h2 k h3
  unfold co at this
  simp [List.getD, h3, h4] at this
  exact UInt8.toNat_inj.1 this
theorem ofN_len (F : Nat → Nat) (n : Nat) : (ofN F n).length = n := byt_len _ n
theorem co_take {l : List UInt8} {n k : Nat} (h : k < n) : co (l.take n) k = co l k := by
  unfold co
  rw [getD_take l h]
theorem trim_eq (l : List UInt8) : trimL l = ofN (co l) (tl (co l) l.length) := by
  apply list_ext
  · rw [trimL_len, ofN_len, tlen, tlenA_eq]
  · intro k hk
    rw [trimL_len, tlen, tlenA_eq] at hk
    rw [byt_get (co_lt l) hk]
    unfold trimL
    rw [tlen, tlenA_eq]
    exact co_take hk
theorem ofN_congr {F G : Nat → Nat} {n : Nat} (h : ∀ k, k < n → F k = G k) : ofN F n = ofN G n := byt_congr fun k hk => by rw [h k hk]
theorem trim_ofN {F : Nat → Nat} (h : ∀ k, F k < 256) (n : Nat) : trimL (ofN F n) = ofN F (tl F n) := by
  rw [trim_eq, ofN_len, tl_congr n fun k hk => byt_get h hk]
  exact ofN_congr fun k hk => byt_get h (Nat.lt_of_lt_of_le hk (tl_le F n))
theorem trim_more {F G : Nat → Nat} (hF : ∀ k, F k < 256) (hG : ∀ k, G k < 256) {n m : Nat} (h1 : n ≤ m) (h2 : ∀ k, k < n → F k = G k) (h3 : ∀ k, n ≤ k → k < m → G k = 0) : trimL (ofN F n) = trimL (ofN G m) := by
  rw [trim_ofN hF, trim_ofN hG, tl_more n m h1 h3, tl_congr n h2]
  exact ofN_congr fun k hk => h2 k (Nat.lt_of_lt_of_le hk (tl_le G n))
theorem co_ofN {F : Nat → Nat} (h : ∀ k, F k < 256) {n : Nat} (h0 : ∀ k, n ≤ k → F k = 0) (k : Nat) : co (ofN F n) k = F k := by
  by_cases hk : k < n
  · exact byt_get h hk
  · rw [co_over (by rw [ofN_len]; omega), h0 k (by omega)]
theorem co_trim (l : List UInt8) (k : Nat) : co (trimL l) k = co l k := by
  rw [trim_eq]
  by_cases hk : k < tl (co l) l.length
  · exact byt_get (co_lt l) hk
  · rw [co_over (by rw [ofN_len]; omega)]
    by_cases h2 : k < l.length
    · exact (tl_zero (by omega) h2).symm
    · exact (co_over (by omega)).symm
theorem tlen_eq (l : List UInt8) : tlen l = tl (co l) l.length := tlenA_eq _

abbrev aRow : ArgL (RowD Int × Unit) := .cons (.row (.int .u8)) .nil
def strC := pcOf aRow (fun _ => []) (fun x => .str (trimL (Byt.of x.1.f x.1.n)))
theorem str_ok : PcOk Tryd.prog 34 strC := by
  refine pcOf_runS (fun _ => EU_ok) Tryd.func34 rfl (by kernel_rfl) (fun ⟨⟨b, o, n, c, z, f⟩, ()⟩ hw => ?_) (fun x => []) (fun _ => Nat.le_of_ble_eq_true rfl) (fun ⟨⟨b, o, n, c, z, f⟩, ()⟩ hp hw => ?_)
  · have h := hw _ (List.mem_cons_self ..)
    exact trim_le (by rw [byt_len]; exact Nat.le_trans h.2.1 h.2.2)
  refine vc_of (q :=
      n ≤ n ∧ (∀ (k1 : Nat), k1 < n → Bool.true = Bool.true) ∧ (b = b ∧ o = o) ∧ ∀ (s1 : List UInt8), s1 = Byt.of f n → ∀ (s2 : List UInt8), s2 = Galois.trimL s1 → s2 = Galois.trimL (Byt.of f n)) (by kernel_rfl) ?_
  try simp only [eq_self, true_and, and_true, Nat.le_refl, implies_true, forall_const, Bool.false_eq_true, Bool.true_eq_false, reduceCtorEq, false_imp_iff, true_imp_iff, Int.toNat_zero, Int.toNat_natCast, Nat.zero_lt_one, Int.le_refl, allGet]
  exact fun s1 h1 s2 h2 => by rw [h2, h1]
def EV : Env := (EU.addE 32 spread).addP 34 strC
theorem EV_ok : EnvOk Tryd.prog EV := (EU_ok.addE spread_ok).addP str_ok
/-! ### sums -/
def sumL (p q : List UInt8) : List UInt8 := trimL (ofN (fun k => Nat.xor (co p k) (co q k)) (max p.length q.length))
def sum := pcOf aStrS (fun x => [x.1.length ≤ 3000, x.2.1.length ≤ 3000]) (fun x => .str (sumL x.1 x.2.1))
theorem sum_ok : PcOk Tryd.prog 24 sum := by
  refine pcOf_runS (fun _ => EV_ok) Tryd.func24 rfl (by kernel_rfl) (fun ⟨p, q, ()⟩ hw => ?_) (fun x => []) (fun _ => Nat.le_of_ble_eq_true rfl) (fun ⟨p, q, ()⟩ hp hw => ?_)
  · have h1 : p.length ≤ 9223372036854775807 := hw (.str p) (List.mem_cons_self ..)
    have h2 : q.length ≤ 9223372036854775807 := hw (.str q) (List.mem_cons_of_mem _ (List.mem_cons_self ..))
    exact trim_le (by rw [ofN, byt_len]; dsimp only; omega)
  refine vc_of (q :=
      ∀ (v1 : Int), v1 = (↑(List.length p) : Int) → ∀ (v2 : Int), v2 = (↑(List.length q) : Int) → ∀ (v3 : Int), (v3 = if v2 > v1 then v2 else v1) → (0 : Int) ≤ v3 ∧ v3 ≤ v3 ∧ v3 * (↑(1 : Nat) : Int) ≤ (140737488355328 : Int) ∧ v3 ≤ (9223372036854775807 : Int) ∧ ∀ (b1 : Nat), (b1 = b1 ∧ (0 : Nat) = (0 : Nat)) ∧ ((0 : Nat) = (0 : Nat) ∧ ∀ (k1 : Nat), k1 < Int.toNat v3 → Bool.true = Bool.true) ∧ ∀ (x'1 :
      (Eng.OwnD Int × Unit) × List UInt8 × Int × Int × Unit), x'1 = ((Eng.OwnD.mk b1 (0 : Nat) (Int.toNat v3) (Int.toNat v3) Bool.false (Int.toNat v3) (Int.toNat v3) Bool.false fun (k : Nat) ↦ (0 : Int), ()), p, (0 : Int), (1 : Int), ()) → (0 : Int) ≤ Prod.fst (Prod.snd (Prod.snd x'1)) ∧ Prod.fst (Prod.snd (Prod.snd x'1)) + (↑(List.length (Prod.fst (Prod.snd x'1))) : Int) ≤ (↑(Eng.OwnD.n (Prod.fst
      (Prod.fst x'1))) : Int) ∧ Eng.OwnD.n (Prod.fst (Prod.fst x'1)) ≤ Eng.OwnD.m (Prod.fst (Prod.fst x'1)) ∧ Eng.OwnD.m (Prod.fst (Prod.fst x'1)) ≤ Eng.OwnD.cap (Prod.fst (Prod.fst x'1)) ∧ Eng.OwnD.n (Prod.fst (Prod.fst x'1)) ≤ (1000000 : Nat) ∧ ((0 : Int) ≤ Prod.fst (Prod.snd (Prod.snd (Prod.snd x'1))) ∧ Prod.fst (Prod.snd (Prod.snd (Prod.snd x'1))) ≤ (255 : Int)) ∧ ∀ (y1 : Unit), True → (Eng.OwnD.b
      (Prod.fst (Prod.fst x'1)) = b1 ∧ Eng.OwnD.off (Prod.fst (Prod.fst x'1)) = (0 : Nat)) ∧ ((0 : Nat) = (0 : Nat) ∧ ∀ (k2 : Nat), k2 < Eng.OwnD.m (Prod.fst (Prod.fst x'1)) → Bool.true = Bool.true) ∧ ∀ (x'2 : (Eng.OwnD Int × Unit) × List UInt8 × Int × Int × Unit), x'2 = ((Eng.OwnD.mk b1 (0 : Nat) (Int.toNat v3) (Int.toNat v3) Bool.false (Eng.OwnD.m (Prod.fst (Prod.fst x'1))) (Eng.OwnD.cap (Prod.fst
      (Prod.fst x'1))) (Eng.OwnD.ez (Prod.fst (Prod.fst x'1))) (Galois.sprF (Eng.OwnD.f (Prod.fst (Prod.fst x'1))) (Prod.fst (Prod.snd x'1)) (Int.toNat (Prod.fst (Prod.snd (Prod.snd x'1)))) (Prod.fst (Prod.snd (Prod.snd (Prod.snd x'1)))) (List.length (Prod.fst (Prod.snd x'1)))), ()), q, (0 : Int), (1 : Int), ()) → (0 : Int) ≤ Prod.fst (Prod.snd (Prod.snd x'2)) ∧ Prod.fst (Prod.snd (Prod.snd x'2)) +
      (↑(List.length (Prod.fst (Prod.snd x'2))) : Int) ≤ (↑(Eng.OwnD.n (Prod.fst (Prod.fst x'2))) : Int) ∧ Eng.OwnD.n (Prod.fst (Prod.fst x'2)) ≤ Eng.OwnD.m (Prod.fst (Prod.fst x'2)) ∧ Eng.OwnD.m (Prod.fst (Prod.fst x'2)) ≤ Eng.OwnD.cap (Prod.fst (Prod.fst x'2)) ∧ Eng.OwnD.n (Prod.fst (Prod.fst x'2)) ≤ (1000000 : Nat) ∧ ((0 : Int) ≤ Prod.fst (Prod.snd (Prod.snd (Prod.snd x'2))) ∧ Prod.fst (Prod.snd
      (Prod.snd (Prod.snd x'2))) ≤ (255 : Int)) ∧ ∀ (y2 : Unit), True → Int.toNat v3 ≤ Eng.OwnD.m (Prod.fst (Prod.fst x'2)) ∧ (∀ (k3 : Nat), k3 < Int.toNat v3 → Bool.true = Bool.true) ∧ (Eng.OwnD.b (Prod.fst (Prod.fst x'2)) = b1 ∧ Eng.OwnD.off (Prod.fst (Prod.fst x'2)) = (0 : Nat)) ∧ ∀ (s1 : List UInt8), s1 = Galois.trimL (Byt.of (Galois.sprF (Eng.OwnD.f (Prod.fst (Prod.fst x'2))) (Prod.fst (Prod.snd
      x'2)) (Int.toNat (Prod.fst (Prod.snd (Prod.snd x'2)))) (Prod.fst (Prod.snd (Prod.snd (Prod.snd x'2)))) (List.length (Prod.fst (Prod.snd x'2)))) (Int.toNat v3)) → s1 = Galois.sumL p q) (by kernel_rfl) ?_
  try simp only [eq_self, true_and, and_true, Nat.le_refl, implies_true, forall_const, Bool.false_eq_true, Bool.true_eq_false, reduceCtorEq, false_imp_iff, true_imp_iff, Int.toNat_zero, Int.toNat_natCast, Nat.zero_lt_one, Int.le_refl, allGet]
  obtain ⟨h1, h2, _⟩ := hp
  dsimp only at h1 h2
  intro v1 hv1 v2 hv2 v3 hv3
  have e3 : v3 = ((max p.length q.length : Nat) : Int) := by
    rw [hv3, hv1, hv2]
    split <;> omega
  have e4 : v3.toNat = max p.length q.length := by omega
  refine ⟨by omega, by omega, by omega, fun b1 x1 hx1 => ?_⟩
  subst hx1
  refine ⟨Int.le_refl 0, by show 0 + (p.length : Int) ≤ (v3.toNat : Nat); omega, Nat.le_refl _, Nat.le_refl _, by show v3.toNat ≤ 1000000; omega, ⟨by show (0 : Int) ≤ 1; decide, by show (1 : Int) ≤ 255; decide⟩, ⟨rfl, rfl⟩, fun x2 hx2 => ?_⟩
  subst hx2
  refine ⟨Int.le_refl 0, by show 0 + (q.length : Int) ≤ (v3.toNat : Nat); omega, Nat.le_refl _, Nat.le_refl _, by show v3.toNat ≤ 1000000; omega, ⟨by show (0 : Int) ≤ 1; decide, by show (1 : Int) ≤ 255; decide⟩, Nat.le_refl _, ⟨rfl, rfl⟩, fun s1 hs => ?_⟩
  have e1 : sprF (fun _ => 0) p (Int.toNat 0) 1 p.length = fun k => (spr (fun _ => 0) p 0 1 k : Int) := sprF_nat (F := fun _ => 0) (c := 1) (fun _ => by decide) p 0 (by decide)
  have e2 : sprF (fun k => (spr (fun _ => 0) p 0 1 k : Int)) q (Int.toNat 0) 1 q.length = fun k => (spr (spr (fun _ => 0) p 0 1) q 0 1 k : Int) := sprF_nat (c := 1) (fun k => spr_lt (fun _ => by decide) p 0 (by decide) k) q 0 (by decide)
  rw [hs, e4]
  dsimp only
  rw [e1, e2]
  unfold sumL ofN
  congr 1
  refine byt_congr fun k hk => ?_
  unfold spr
  rw [if_pos (Nat.zero_le _), if_pos (Nat.zero_le _), Nat.sub_zero, gone_mul (co_lt p k), gone_mul (co_lt q k), xor0']
theorem sumR_ok : PcOk Tryd.prog 25 sum := by
  refine pcOf_runS (fun _ => EV_ok) Tryd.func25 rfl (by kernel_rfl) (fun ⟨p, q, ()⟩ hw => ?_)
    (fun x => [.loop ⟨3, Nat × Nat × Nat × Nat, [5, 6], fun y => [.slice 500 y.2.1 y.2.2.1 [] 1 0 y.1 y.2.2.2 (Nat.beq y.1 0), .int .i64 (y.1 : Nat)], [], fun y => [⟨500, y.2.1, y.2.2.1, 1, y.1, fun k => .int .u8 (Nat.xor (co x.1 k) (co x.2.1 k) : Nat), true, false, y.2.2.2, 5, Nat.beq y.1 0, none⟩], fun y => y.1 ≤ max x.1.length x.2.1.length ∧ y.1 ≤ y.2.2.2, fun y => max x.1.length x.2.1.length - y.1⟩])
    (fun _ => Nat.le_of_ble_eq_true rfl) (fun ⟨p, q, ()⟩ hp hw => ?_)
  · have h1 : p.length ≤ 9223372036854775807 := hw (.str p) (List.mem_cons_self ..)
    have h2 : q.length ≤ 9223372036854775807 := hw (.str q) (List.mem_cons_of_mem _ (List.mem_cons_self ..))
    exact trim_le (by rw [ofN, byt_len]; dsimp only; omega)
  refine vc_of (q :=
      (∃ (x1 : Nat × Nat × Nat × Nat), Eng.SVeq (Eng.SV.slice (999999 : Nat) (0 : Nat) (0 : Nat) [] (0 : Nat) (0 : Nat) (0 : Nat) (0 : Nat) Bool.true) (Eng.SV.slice (500 : Nat) (Prod.fst (Prod.snd x1)) (Prod.fst (Prod.snd (Prod.snd x1))) [] (1 : Nat) (0 : Nat) (Prod.fst x1) (Prod.snd (Prod.snd (Prod.snd x1))) (Nat.beq (Prod.fst x1) (0 : Nat))) ∧ (0 : Int) = (↑(Prod.fst x1) : Int) ∧ (Nat.beq (Prod.fst x1)
      (0 : Nat) = Bool.true ∧ Prod.fst x1 = (0 : Nat) ∧ Prod.snd (Prod.snd (Prod.snd x1)) = (0 : Nat)) ∧ Prod.fst x1 ≤ Max.max (List.length p) (List.length q) ∧ Prod.fst x1 ≤ Prod.snd (Prod.snd (Prod.snd x1))) ∧ ∀ (x2 : Nat × Nat × Nat × Nat), Prod.fst x2 ≤ Max.max (List.length p) (List.length q) ∧ Prod.fst x2 ≤ Prod.snd (Prod.snd (Prod.snd x2)) → ∀ (v1 : Int), v1 = (↑(List.length p) : Int) → ∀ (v2 :
      Int), v2 = (↑(List.length q) : Int) → ∀ (t1 : Bool), (t1 = if Decidable.decide ((↑(Prod.fst x2) : Int) < v1) = Bool.true then Bool.true else Decidable.decide ((↑(Prod.fst x2) : Int) < v2)) → (t1 = Bool.true → (0 : Int) ≤ (↑(Prod.fst x2) : Int) ∧ ∀ (v3 : Int), v3 = (↑(UInt8.toNat (List.getD p (Int.toNat (↑(Prod.fst x2) : Int)) (0 : UInt8))) : Int) → (0 : Int) ≤ (↑(Prod.fst x2) : Int) ∧ ∀ (v4 : Int),
      v4 = (↑(UInt8.toNat (List.getD q (Int.toNat (↑(Prod.fst x2) : Int)) (0 : UInt8))) : Int) → ∀ (v5 : Int), v5 = Go.IntKind.wrap Go.IntKind.u8 (↑(BitVec.toNat (BitVec.ofInt (Go.IntKind.bits Go.IntKind.u8) v3 ^^^ BitVec.ofInt (Go.IntKind.bits Go.IntKind.u8) v4)) : Int) → ∀ (b1 : Nat), (Prod.fst (Prod.snd x2) = Prod.fst (Prod.snd x2) ∧ Prod.fst (Prod.snd (Prod.snd x2)) = Prod.fst (Prod.snd (Prod.snd
      x2))) ∧ (Nat.beq (Prod.fst x2) (0 : Nat) = Bool.true → Nat.beq (Prod.fst x2) (0 : Nat) = Bool.true) ∧ (0 : Nat) = (0 : Nat) ∧ Prod.fst x2 ≤ Prod.fst x2 ∧ Prod.snd (Prod.snd (Prod.snd x2)) ≤ Prod.snd (Prod.snd (Prod.snd x2)) ∧ (Prod.fst x2 + (1 : Nat)) * (1 : Nat) ≤ (140737488355328 : Nat) ∧ Prod.fst x2 + (1 : Nat) ≤ (9223372036854775807 : Nat) ∧ (1 : Nat) ≤ (1 : Nat) ∧ (b1 = b1 ∧ (0 : Nat) = (0 :
      Nat)) ∧ ∀ (b2 b3 b4 : Nat), Prod.fst x2 + (1 : Nat) ≤ b4 → b4 ≤ (9223372036854775807 : Nat) → (Nat.beq (Prod.fst x2) (0 : Nat) = Bool.true → (1 : Nat) = (0 : Nat) → b4 = (0 : Nat)) → ∀ (v6 : Int), v6 = Go.IntKind.wrap Go.IntKind.i64 ((↑(Prod.fst x2) : Int) + (1 : Int)) → ∃ (x3 : Nat × Nat × Nat × Nat), (b2 = Prod.fst (Prod.snd x3) ∧ b3 = Prod.fst (Prod.snd (Prod.snd x3)) ∧ (0 : Nat) = (0 : Nat) ∧
      Prod.fst x2 + (1 : Nat) = Prod.fst x3 ∧ b4 = Prod.snd (Prod.snd (Prod.snd x3)) ∧ (Nat.beq (Prod.fst x2) (0 : Nat) && Decidable.decide ((1 : Nat) = (0 : Nat))) = Nat.beq (Prod.fst x3) (0 : Nat)) ∧ v6 = (↑(Prod.fst x3) : Int) ∧ ((b2 = Prod.fst (Prod.snd x3) ∧ b3 = Prod.fst (Prod.snd (Prod.snd x3)) ∧ (Nat.beq (Prod.fst x2) (0 : Nat) && Decidable.decide ((1 : Nat) = (0 : Nat))) = Nat.beq (Prod.fst x3)
      (0 : Nat) ∧ Prod.fst x3 ≤ Prod.fst x2 + (1 : Nat) ∧ Prod.fst x3 ≤ Prod.snd (Prod.snd (Prod.snd x3)) ∧ Prod.snd (Prod.snd (Prod.snd x3)) ≤ b4) ∧ ∀ (i1 : Nat), i1 < Prod.fst x3 → (if i1 < Prod.fst x2 then (↑(Nat.xor (Galois.co p i1) (Galois.co q i1)) : Int) else v5) = (↑(Nat.xor (Galois.co p i1) (Galois.co q i1)) : Int)) ∧ (Prod.fst x3 ≤ Max.max (List.length p) (List.length q) ∧ Prod.fst x3 ≤
      Prod.snd (Prod.snd (Prod.snd x3))) ∧ Max.max (List.length p) (List.length q) - Prod.fst x3 < Max.max (List.length p) (List.length q) - Prod.fst x2) ∧ (t1 = Bool.false → Prod.fst x2 ≤ Prod.fst x2 ∧ (∀ (k1 : Nat), k1 < Prod.fst x2 → Bool.true = Bool.true) ∧ (Prod.fst (Prod.snd x2) = Prod.fst (Prod.snd x2) ∧ Prod.fst (Prod.snd (Prod.snd x2)) = Prod.fst (Prod.snd (Prod.snd x2))) ∧ ∀ (s1 : List UInt8),
      s1 = Byt.of (fun (k : Nat) ↦ (↑(Nat.xor (Galois.co p k) (Galois.co q k)) : Int)) (Prod.fst x2) → ∀ (s2 : List UInt8), s2 = Galois.trimL s1 → s2 = Galois.sumL p q)) (by kernel_rfl) ?_
  try simp only [eq_self, true_and, and_true, Nat.le_refl, implies_true, forall_const, Bool.false_eq_true, Bool.true_eq_false, reduceCtorEq, false_imp_iff, true_imp_iff, Int.toNat_zero, Int.toNat_natCast, Nat.zero_lt_one, Int.le_refl, allGet]
  obtain ⟨h1, h2, _⟩ := hp
  dsimp only at h1 h2
  refine ⟨⟨(0, 0, 0, 0), nil_eqv rfl rfl rfl, rfl, ⟨rfl, rfl, rfl⟩, Nat.zero_le _, Nat.le_refl _⟩, ?_⟩
  rintro ⟨n, b, o, c⟩ ⟨hn, hc⟩
  dsimp only at hn hc ⊢
  intro v1 hv1 v2 hv2 t1 ht1
  refine ⟨fun ht => ⟨by omega, fun v3 h3 => ⟨by omega, fun v4 h4 v5 h5 => ⟨fun h => h, by omega, by omega, fun b2 b3 b4 g1 g2 v6 h6 => ⟨(n + 1, b2, b3, b4), ⟨rfl, rfl, rfl, rfl, ?_⟩, ?_, ⟨⟨rfl, rfl, ?_, Nat.le_refl _, g1, Nat.le_refl _⟩, fun k hk => ?_⟩, ⟨?_, g1⟩, ?_⟩⟩⟩⟩, fun ht s1 hs1 s2 hs2 => ?_⟩
  · cases Nat.beq n 0 <;> rfl
  · exact h6.trans (l_succ (by omega))
  · cases Nat.beq n 0 <;> rfl
  · by_cases e : k < n
    · rw [if_pos e]
    · rw [if_neg e, h5, h3, h4]
      obtain rfl : k = n := by dsimp only at hk; omega
      exact xr_nat (co_lt p k) (co_lt q k)
  · rw [ht] at ht1
    by_cases e : (n : Int) < v1
    · show n + 1 ≤ _; omega
    · rw [if_neg (by simpa using e)] at ht1
      have := of_decide_eq_true ht1.symm
      show n + 1 ≤ _; omega
  · rw [ht] at ht1
    by_cases e : (n : Int) < v1
    · show max p.length q.length - (n + 1) < _; omega
    · rw [if_neg (by simpa using e)] at ht1
      have := of_decide_eq_true ht1.symm
      show max p.length q.length - (n + 1) < _; omega
  · rw [ht] at ht1
    have hne : ¬ (n : Int) < v1 := by
      intro e
      rw [if_pos (by simpa using e)] at ht1
      cases ht1
    rw [if_neg (by simpa using hne)] at ht1
    have := of_decide_eq_false ht1.symm
    obtain rfl : n = max p.length q.length := by omega
    rw [hs2, hs1]
    rfl
def EW : Env := (EV.addP 24 sum).addP 25 sum
theorem EW_ok : EnvOk Tryd.prog EW := (EV_ok.addP sum_ok).addP sumR_ok
/-! ### values -/
def evA (p : List UInt8) (x : Nat) : Nat → Nat
  | 0 => 0
  | n + 1 => Nat.xor (evA p x n) (gmul (co p n) (gpow x n))
def evalF (p : List UInt8) (x : Nat) : Nat := evA p x p.length
def eval := pcOf aStrB (fun x => [isB x.2.1]) (fun x => .int .u8 (evalF x.1 x.2.1.toNat : Nat))
/-- What stands over the first n terms. -/
def evB (p : List UInt8) (x : Nat) : Nat → Nat → Nat
  | 0, n => 0
  | m + 1, n => Nat.xor (gmul (evB p x m (n + 1)) x) (co p n)
theorem evA_lt (p : List UInt8) (x : Nat) : ∀ n, evA p x n < 256
  | 0 => by show 0 < 256; decide
  | n + 1 => xor_lt (evA_lt p x n) (gmul_lt (co_lt p n))
theorem evB_lt (p : List UInt8) (x : Nat) : ∀ m n, evB p x m n < 256
  | 0, n => by show 0 < 256; decide
  | m + 1, n => xor_lt (gmul_lt (evB_lt p x m (n + 1))) (co_lt p n)
/-- The terms from n on, m of them. -/
def evT (p : List UInt8) (x : Nat) : Nat → Nat → Nat
  | 0, n => 0
  | m + 1, n => Nat.xor (evT p x m n) (gmul (co p (n + m)) (gpow x m))
theorem evT_lt (p : List UInt8) (x : Nat) : ∀ m n, evT p x m n < 256
  | 0, n => by show 0 < 256; decide
  | m + 1, n => xor_lt (evT_lt p x m n) (gmul_lt (co_lt p _))
theorem xor_swap (a b c : Nat) : Nat.xor (Nat.xor a b) c = Nat.xor (Nat.xor a c) b := by
  show (a ^^^ b) ^^^ c = (a ^^^ c) ^^^ b
  ac_rfl
theorem evT_front (p : List UInt8) {x : Nat} (hx : x < 256) : ∀ m n, evT p x (m + 1) n = Nat.xor (gmul (evT p x m (n + 1)) x) (co p n)
  | 0, n => by
    show Nat.xor 0 (gmul (co p n) 1) = Nat.xor (gmul 0 x) (co p n)
    rw [gmul_one (co_lt p n), gzero_mul hx]
  | m + 1, n => by
    have e : n + 1 + m = n + (m + 1) := by omega
    show Nat.xor (evT p x (m + 1) n) (gmul (co p (n + (m + 1))) (gmul (gpow x m) x)) = Nat.xor (gmul (Nat.xor (evT p x m (n + 1)) (gmul (co p (n + 1 + m)) (gpow x m))) x) (co p n)
    rw [evT_front p hx m n, gmul_lin x (evT_lt p x m _) (gmul_lt (co_lt p _)), ← gmul_assoc x (co_lt p _) (gpow_lt x m), e]
    exact xor_swap _ _ _
theorem evB_eq (p : List UInt8) {x : Nat} (hx : x < 256) : ∀ m n, evB p x m n = evT p x m n
  | 0, n => rfl
  | m + 1, n => by
    rw [evT_front p hx m n, ← evB_eq p hx m (n + 1)]
    rfl
theorem evT_zero (p : List UInt8) (x : Nat) : ∀ m, evT p x m 0 = evA p x m
  | 0 => rfl
  | m + 1 => by
    show Nat.xor (evT p x m 0) (gmul (co p (0 + m)) (gpow x m)) = Nat.xor (evA p x m) (gmul (co p m) (gpow x m))
    rw [evT_zero p x m, Nat.zero_add]
theorem evB_zero {p : List UInt8} {x m : Nat} (hx : x < 256) : evB p x m 0 = evA p x m := by rw [evB_eq p hx, evT_zero]
theorem eval_ok : PcOk Tryd.prog 28 eval := by
  refine pcOf_run (fun _ => EW_ok) Tryd.func28 rfl (by kernel_rfl) (fun _ => trivial)
    (fun x => [.lp 3 Nat [5, 6] (fun n => [.int .u8 (evB x.1 x.2.1.toNat (x.1.length - n) n : Nat), .int .i64 ((n : Int) - 1)]) (fun n => n ≤ x.1.length) fun n => n]) (fun _ => Nat.le_of_ble_eq_true rfl) (fun ⟨p, x, ()⟩ hp hw => ?_)
  refine vc_of (q :=
      ∀ (v1 : Int), v1 = (↑(List.length p) : Int) → ∀ (v2 : Int), v2 = Go.IntKind.wrap Go.IntKind.i64 (v1 - (1 : Int)) → (∃ (x1 : Nat), (0 : Int) = (↑(Galois.evB p (Int.toNat x) (List.length p - x1) x1) : Int) ∧ v2 = (↑x1 : Int) - (1 : Int) ∧ Nat.le x1 (List.length p)) ∧ ∀ (b1 : Nat), b1 ≤ List.length p → (Decidable.decide ((↑b1 : Int) - (1 : Int) ≥ (0 : Int)) = Bool.true → ((0 : Int) ≤ (↑(Galois.evB p
      (Int.toNat x) (List.length p - b1) b1) : Int) ∧ (↑(Galois.evB p (Int.toNat x) (List.length p - b1) b1) : Int) ≤ (255 : Int)) ∧ ((0 : Int) ≤ x ∧ x ≤ (255 : Int)) ∧ ∀ (v3 : Int), v3 = Galois.mulI (↑(Galois.evB p (Int.toNat x) (List.length p - b1) b1) : Int) x → (0 : Int) ≤ (↑b1 : Int) - (1 : Int) ∧ (↑b1 : Int) - (1 : Int) < (↑(List.length p) : Int) ∧ ∀ (v4 : Int), v4 = Go.IntKind.wrap Go.IntKind.u8
      (↑(BitVec.toNat (BitVec.ofInt (Go.IntKind.bits Go.IntKind.u8) v3 ^^^ BitVec.ofInt (Go.IntKind.bits Go.IntKind.u8) (↑(UInt8.toNat (List.getD p (Int.toNat ((↑b1 : Int) - (1 : Int))) (0 : UInt8))) : Int))) : Int) → ∀ (v5 : Int), v5 = Go.IntKind.wrap Go.IntKind.i64 ((↑b1 : Int) - (1 : Int) - (1 : Int)) → ∃ (x2 : Nat), v4 = (↑(Galois.evB p (Int.toNat x) (List.length p - x2) x2) : Int) ∧ v5 = (↑x2 : Int)
      - (1 : Int) ∧ x2 ≤ List.length p ∧ x2 < b1) ∧ (Decidable.decide ((↑b1 : Int) - (1 : Int) ≥ (0 : Int)) = Bool.false → (↑(Galois.evB p (Int.toNat x) (List.length p - b1) b1) : Int) = (↑(Galois.evalF p (Int.toNat x)) : Int))) (by kernel_rfl) ?_
  try simp only [eq_self, true_and, and_true, Nat.le_refl, implies_true, forall_const, Bool.false_eq_true, Bool.true_eq_false, reduceCtorEq, false_imp_iff, true_imp_iff, Int.toNat_zero, Int.toNat_natCast, Nat.zero_lt_one, Int.le_refl, allGet]
  obtain ⟨⟨x0, x1⟩, _⟩ := hp
  dsimp only at x0 x1
  have hl : p.length ≤ 9223372036854775807 := hw (.str p) (List.mem_cons_self ..)
  intro v1 h1 v2 h2
  subst h1
  rw [w64_id (by omega) (by omega)] at h2
  refine ⟨⟨p.length, by rw [Nat.sub_self]; rfl, h2, Nat.le_refl _⟩, fun n hn => ⟨fun hc => ⟨⟨by omega, ?_⟩, ⟨x0, x1⟩, fun v3 h3 => ⟨by have := of_decide_eq_true hc; omega, by omega, fun v4 h4 v5 h5 => ⟨n - 1, ?_, ?_, by omega, ?_⟩⟩⟩, fun hc => ?_⟩⟩
  · have := evB_lt p x.toNat (p.length - n) n; omega
  · have := of_decide_eq_true hc
    obtain ⟨m, rfl⟩ : ∃ m, n = m + 1 := ⟨n - 1, by omega⟩
    have e : (((m + 1 : Nat) : Int) - 1).toNat = m := by omega
    rw [h4, h3, e]
    rw [show p.length - (m + 1 - 1) = (p.length - (m + 1)) + 1 by omega]
    show xr (((gmul (evB p x.toNat (p.length - (m + 1)) (m + 1)) x.toNat : Nat) : Int)) ((co p m : Nat) : Int) = ((Nat.xor (gmul (evB p x.toNat (p.length - (m + 1)) (m + 1)) x.toNat) (co p m) : Nat) : Int)
    exact xr_nat (gmul_lt (evB_lt _ _ _ _)) (co_lt p m)
  · have := of_decide_eq_true hc
    rw [h5, w64_id (by omega) (by omega)]; omega
  · have := of_decide_eq_true hc; omega
  · have := of_decide_eq_false hc
    obtain rfl : n = 0 := by omega
    rw [Nat.sub_zero, evB_zero (by omega), evalF]
theorem evalR_ok : PcOk Tryd.prog 29 eval := by
  refine pcOf_run (fun _ => EW_ok) Tryd.func29 rfl (by kernel_rfl) (fun _ => trivial)
    (fun x => [.lp 4 Nat [5, 6, 7] (fun n => [.int .u8 (evA x.1 x.2.1.toNat n : Nat), .int .u8 (gpow x.2.1.toNat n : Nat), .int .i64 (n : Nat)]) (fun n => n ≤ x.1.length) fun n => x.1.length - n]) (fun _ => Nat.le_of_ble_eq_true rfl) (fun ⟨p, x, ()⟩ hp hw => ?_)
  refine vc_of (q :=
      (∃ (x1 : Nat), (0 : Int) = (↑(Galois.evA p (Int.toNat x) x1) : Int) ∧ (1 : Int) = (↑(Galois.gpow (Int.toNat x) x1) : Int) ∧ (0 : Int) = (↑x1 : Int) ∧ Nat.le x1 (List.length p)) ∧ ∀ (b1 : Nat), b1 ≤ List.length p → ∀ (v1 : Int), v1 = (↑(List.length p) : Int) → (Decidable.decide ((↑b1 : Int) < v1) = Bool.true → (0 : Int) ≤ (↑b1 : Int) ∧ (↑b1 : Int) < (↑(List.length p) : Int) ∧ ((0 : Int) ≤
      (↑(UInt8.toNat (List.getD p (Int.toNat (↑b1 : Int)) (0 : UInt8))) : Int) ∧ (↑(UInt8.toNat (List.getD p (Int.toNat (↑b1 : Int)) (0 : UInt8))) : Int) ≤ (255 : Int)) ∧ ((0 : Int) ≤ (↑(Galois.gpow (Int.toNat x) b1) : Int) ∧ (↑(Galois.gpow (Int.toNat x) b1) : Int) ≤ (255 : Int)) ∧ ∀ (v2 : Int), v2 = Galois.mulI (↑(UInt8.toNat (List.getD p (Int.toNat (↑b1 : Int)) (0 : UInt8))) : Int) (↑(Galois.gpow
      (Int.toNat x) b1) : Int) → ∀ (v3 : Int), v3 = Go.IntKind.wrap Go.IntKind.u8 (↑(BitVec.toNat (BitVec.ofInt (Go.IntKind.bits Go.IntKind.u8) (↑(Galois.evA p (Int.toNat x) b1) : Int) ^^^ BitVec.ofInt (Go.IntKind.bits Go.IntKind.u8) v2)) : Int) → ((0 : Int) ≤ (↑(Galois.gpow (Int.toNat x) b1) : Int) ∧ (↑(Galois.gpow (Int.toNat x) b1) : Int) ≤ (255 : Int)) ∧ ((0 : Int) ≤ x ∧ x ≤ (255 : Int)) ∧ ∀ (v4 :
      Int), v4 = Galois.mulI (↑(Galois.gpow (Int.toNat x) b1) : Int) x → ∀ (v5 : Int), v5 = Go.IntKind.wrap Go.IntKind.i64 ((↑b1 : Int) + (1 : Int)) → ∃ (x2 : Nat), v3 = (↑(Galois.evA p (Int.toNat x) x2) : Int) ∧ v4 = (↑(Galois.gpow (Int.toNat x) x2) : Int) ∧ v5 = (↑x2 : Int) ∧ x2 ≤ List.length p ∧ List.length p - x2 < List.length p - b1) ∧ (Decidable.decide ((↑b1 : Int) < v1) = Bool.false →
      (↑(Galois.evA p (Int.toNat x) b1) : Int) = (↑(Galois.evalF p (Int.toNat x)) : Int))) (by kernel_rfl) ?_
  try simp only [eq_self, true_and, and_true, Nat.le_refl, implies_true, forall_const, Bool.false_eq_true, Bool.true_eq_false, reduceCtorEq, false_imp_iff, true_imp_iff, Int.toNat_zero, Int.toNat_natCast, Nat.zero_lt_one, Int.le_refl, allGet]
  obtain ⟨⟨x0, x1⟩, _⟩ := hp
  dsimp only at x0 x1
  have hl : p.length ≤ 9223372036854775807 := hw (.str p) (List.mem_cons_self ..)
  refine ⟨⟨0, rfl, rfl, rfl, Nat.zero_le _⟩, fun n hn v1 h1 => ⟨fun hc => ⟨by omega, ?_, ⟨by omega, ?_⟩, ⟨by omega, ?_⟩, fun v2 h2 v3 h3 => ⟨⟨by omega, ?_⟩, ⟨x0, x1⟩, fun v4 h4 v5 h5 => ⟨n + 1, ?_, ?_, ?_, ?_, ?_⟩⟩⟩, fun hc => ?_⟩⟩
  · have := of_decide_eq_true hc; omega
  · have := (p.getD n 0).toNat_lt; omega
  · have := gpow_lt x.toNat n; omega
  · have := gpow_lt x.toNat n; omega
  · rw [h3, h2]
    exact xr_nat (evA_lt p x.toNat n) (gmul_lt (a := co p n) (co_lt p n))
  · rw [h4]; rfl
  · have := of_decide_eq_true hc
    exact h5.trans (l_succ (by omega))
  · have := of_decide_eq_true hc; omega
  · have := of_decide_eq_true hc; omega
  · have := of_decide_eq_false hc
    obtain rfl : n = p.length := by omega
    rfl
/-! ### derivatives -/
def derN (p : List UInt8) (k : Nat) : Nat := if k % 2 = 0 then co p (k + 1) else 0
def derL (p : List UInt8) : List UInt8 := trimL (ofN (derN p) (p.length - 1))
theorem derN_lt (p : List UInt8) (k : Nat) : derN p k < 256 := by
  unfold derN
  split
  · exact co_lt p _
  · decide
theorem derN_over {p : List UInt8} {k : Nat} (h : p.length ≤ k + 1) : derN p k = 0 := by
  unfold derN
  split
  · exact co_over h
  · rfl
def derived := pcOf aStr (fun x => [x.1.length ≤ 5000]) (fun x => .str (derL x.1))
theorem derived_ok : PcOk Tryd.prog 26 derived := by
  refine pcOf_runS (fun _ => EW_ok) Tryd.func26 rfl (by kernel_rfl) (fun ⟨p, ()⟩ hw => ?_)
    (fun x => [.loop ⟨3, Nat × Nat, [3, 4], fun y => [.slice 0 y.2 0 [] 1 0 x.1.length x.1.length false, .int .i64 ((2 * y.1 + 1 : Nat) : Int)], [0], fun y => [⟨0, y.2, 0, 1, x.1.length, fun k => .int .u8 ((if k < 2 * y.1 then derN x.1 k else 0 : Nat) : Int), true, false, x.1.length, 5, false, none⟩], fun y => 2 * y.1 ≤ x.1.length, fun y => x.1.length - 2 * y.1⟩]) (fun _ => Nat.le_of_ble_eq_true rfl) (fun ⟨p, ()⟩ hp hw => ?_)
  · have h1 : p.length ≤ 9223372036854775807 := hw (.str p) (List.mem_cons_self ..)
    exact trim_le (by rw [ofN, byt_len]; dsimp only; omega)
  refine vc_of (q :=
      ∀ (v1 : Int), v1 = (↑(List.length p) : Int) → (0 : Int) ≤ v1 ∧ v1 ≤ v1 ∧ v1 * (↑(1 : Nat) : Int) ≤ (140737488355328 : Int) ∧ v1 ≤ (9223372036854775807 : Int) ∧ ∀ (b1 : Nat), (∃ (x1 : Nat × Nat), (b1 = Prod.snd x1 ∧ (0 : Nat) = (0 : Nat) ∧ (0 : Nat) = (0 : Nat) ∧ Int.toNat v1 = List.length p ∧ Int.toNat v1 = List.length p ∧ Bool.false = Bool.false) ∧ (1 : Int) = (↑((2 : Nat) * Prod.fst x1 + (1 :
      Nat)) : Int) ∧ ((b1 = Prod.snd x1 ∧ (0 : Nat) = (0 : Nat) ∧ Bool.false = Bool.false ∧ List.length p ≤ Int.toNat v1 ∧ List.length p ≤ List.length p ∧ List.length p ≤ Int.toNat v1) ∧ ∀ (i1 : Nat), i1 < List.length p → (0 : Int) = (↑(if i1 < (2 : Nat) * Prod.fst x1 then Galois.derN p i1 else (0 : Nat)) : Int)) ∧ Nat.le ((2 : Nat) * Prod.fst x1) (List.length p)) ∧ ∀ (x2 : Nat × Nat), (2 : Nat) *
      Prod.fst x2 ≤ List.length p → ∀ (v2 : Int), v2 = (↑(List.length p) : Int) → (Decidable.decide ((↑((2 : Nat) * Prod.fst x2 + (1 : Nat)) : Int) < v2) = Bool.true → ∀ (v3 : Int), v3 = Go.IntKind.wrap Go.IntKind.i64 ((↑((2 : Nat) * Prod.fst x2 + (1 : Nat)) : Int) - (1 : Int)) → (0 : Int) ≤ (↑((2 : Nat) * Prod.fst x2 + (1 : Nat)) : Int) ∧ (↑((2 : Nat) * Prod.fst x2 + (1 : Nat)) : Int) < (↑(List.length
      p) : Int) ∧ (Prod.snd x2 = Prod.snd x2 ∧ (0 : Nat) = (0 : Nat)) ∧ ((0 : Nat) = (0 : Nat) ∧ ∀ (k1 : Nat), k1 < List.length p → Bool.true = Bool.true) ∧ ∀ (x'1 : Eng.OwnD Int × Int × Int × Unit), x'1 = (Eng.OwnD.mk (Prod.snd x2) (0 : Nat) (List.length p) (List.length p) Bool.false (List.length p) (List.length p) Bool.false fun (k : Nat) ↦ (↑(if k < (2 : Nat) * Prod.fst x2 then Galois.derN p k else (0
      : Nat)) : Int), v3, (↑(UInt8.toNat (List.getD p (Int.toNat (↑((2 : Nat) * Prod.fst x2 + (1 : Nat)) : Int)) (0 : UInt8))) : Int), ()) → (0 : Int) ≤ Prod.fst (Prod.snd x'1) ∧ Prod.fst (Prod.snd x'1) < (↑(Eng.OwnD.n (Prod.fst x'1)) : Int) ∧ Eng.OwnD.n (Prod.fst x'1) ≤ Eng.OwnD.m (Prod.fst x'1) ∧ Eng.OwnD.m (Prod.fst x'1) ≤ Eng.OwnD.cap (Prod.fst x'1) ∧ ∀ (y1 : Unit), True → ∀ (v4 : Int), v4 =
      Go.IntKind.wrap Go.IntKind.i64 ((↑((2 : Nat) * Prod.fst x2 + (1 : Nat)) : Int) + (2 : Int)) → ∃ (x3 : Nat × Nat), (Prod.snd x2 = Prod.snd x3 ∧ (0 : Nat) = (0 : Nat) ∧ (0 : Nat) = (0 : Nat) ∧ List.length p = List.length p ∧ List.length p = List.length p ∧ Bool.false = Bool.false) ∧ v4 = (↑((2 : Nat) * Prod.fst x3 + (1 : Nat)) : Int) ∧ ((Eng.OwnD.b (Prod.fst x'1) = Prod.snd x3 ∧ Eng.OwnD.off
      (Prod.fst x'1) = (0 : Nat) ∧ Eng.OwnD.ez (Prod.fst x'1) = Bool.false ∧ List.length p ≤ Eng.OwnD.m (Prod.fst x'1) ∧ List.length p ≤ List.length p ∧ List.length p ≤ Eng.OwnD.cap (Prod.fst x'1)) ∧ ∀ (i2 : Nat), i2 < List.length p → Galois.addF (Eng.OwnD.f (Prod.fst x'1)) (Int.toNat (Prod.fst (Prod.snd x'1))) (Prod.fst (Prod.snd (Prod.snd x'1))) i2 = (↑(if i2 < (2 : Nat) * Prod.fst x3 then Galois.derN
      p i2 else (0 : Nat)) : Int)) ∧ (2 : Nat) * Prod.fst x3 ≤ List.length p ∧ List.length p - (2 : Nat) * Prod.fst x3 < List.length p - (2 : Nat) * Prod.fst x2) ∧ (Decidable.decide ((↑((2 : Nat) * Prod.fst x2 + (1 : Nat)) : Int) < v2) = Bool.false → List.length p ≤ List.length p ∧ (∀ (k1 : Nat), k1 < List.length p → Bool.true = Bool.true) ∧ (Prod.snd x2 = Prod.snd x2 ∧ (0 : Nat) = (0 : Nat)) ∧ ∀ (s1 :
      List UInt8), s1 = Galois.trimL (Byt.of (fun (k : Nat) ↦ (↑(if k < (2 : Nat) * Prod.fst x2 then Galois.derN p k else (0 : Nat)) : Int)) (List.length p)) → s1 = Galois.derL p)) (by kernel_rfl) ?_
  try simp only [eq_self, true_and, and_true, Nat.le_refl, implies_true, forall_const, Bool.false_eq_true, Bool.true_eq_false, reduceCtorEq, false_imp_iff, true_imp_iff, Int.toNat_zero, Int.toNat_natCast, Nat.zero_lt_one, Int.le_refl, allGet]
  have h1 : p.length ≤ 5000 := hp.1
  intro v1 hv1
  have e1 : v1.toNat = p.length := by omega
  refine ⟨by omega, by omega, by omega, fun b1 => ⟨⟨(0, b1), ⟨rfl, e1, e1⟩, rfl, ⟨⟨rfl, by omega, by omega⟩, fun k _ => ?_⟩, Nat.zero_le _⟩, ?_⟩⟩
  · show (0 : Int) = ((if k < 0 then _ else 0 : Nat) : Int)
    rw [if_neg (Nat.not_lt_zero _)]
    rfl
  rintro ⟨i, b⟩ hi v2 hv2
  dsimp only at hi ⊢
  refine ⟨fun hc v3 h3 => ⟨by omega, ?_, fun x hx => ?_⟩, fun hc s1 hs => ?_⟩
  · have := of_decide_eq_true hc; omega
  · have hc := of_decide_eq_true hc
    subst hx
    rw [w64_id (by omega) (by omega)] at h3
    have e3 : v3 = ((2 * i : Nat) : Int) := by omega
    refine ⟨by show 0 ≤ v3; omega, by show v3 < (p.length : Nat); omega, Nat.le_refl _, Nat.le_refl _, fun v4 h4 => ⟨(i + 1, b), rfl, ?_, ⟨⟨rfl, rfl, rfl, Nat.le_refl _, Nat.le_refl _⟩, fun k hk => ?_⟩, by show 2 * (i + 1) ≤ _; omega, by show p.length - 2 * (i + 1) < _; omega⟩⟩
    · rw [h4, w64_id (by omega) (by omega)]
      show _ = ((2 * (i + 1) + 1 : Nat) : Int)
      omega
    · show (if k = v3.toNat then xr (((if v3.toNat < 2 * i then derN p v3.toNat else 0 : Nat) : Int)) ((p.getD (2 * i + 1) 0).toNat : Int) else ((if k < 2 * i then derN p k else 0 : Nat) : Int)) = ((if k < 2 * (i + 1) then derN p k else 0 : Nat) : Int)
      rw [e3, Int.toNat_natCast]
      by_cases e : k = 2 * i
      · subst e
        rw [if_pos rfl, if_neg (by omega), if_pos (by omega)]
        have : derN p (2 * i) = co p (2 * i + 1) := by unfold derN; rw [if_pos (by omega)]
        rw [this]
        exact (xr_nat (a := 0) (by decide) (co_lt p _)).trans (by rw [xor0'])
      · rw [if_neg e]
        by_cases e2 : k < 2 * i
        · rw [if_pos e2, if_pos (by omega)]
        · rw [if_neg e2]
          by_cases e3 : k < 2 * (i + 1)
          · rw [if_pos e3]
            have : derN p k = 0 := by unfold derN; rw [if_neg (by omega)]
            rw [this]
          · rw [if_neg e3]
  · have hc := of_decide_eq_false hc
    rw [hs]
    refine (trim_more (F := derN p) (G := fun k => if k < 2 * i then derN p k else 0) (derN_lt p) (fun k => ?_) (Nat.sub_le _ 1) (fun k hk => ?_) (fun k h2 h3 => ?_)).symm
    · split
      · exact derN_lt p k
      · decide
    · rw [if_pos (by omega)]
    · by_cases e : k < 2 * i
      · rw [if_pos e]
        exact derN_over (by omega)
      · rw [if_neg e]
theorem derivedR_ok : PcOk Tryd.prog 27 derived := by
  refine pcOf_runS (fun _ => EW_ok) Tryd.func27 rfl (by kernel_rfl) (fun ⟨p, ()⟩ hw => ?_)
    (fun x => [.loop ⟨3, Nat × Nat × Nat × Nat, [3, 4], fun y => [.slice 500 y.2.1 y.2.2.1 [] 1 0 y.1 y.2.2.2 (Nat.beq y.1 0), .int .i64 (y.1 : Nat)], [], fun y => [⟨500, y.2.1, y.2.2.1, 1, y.1, fun k => .int .u8 (derN x.1 k : Nat), true, false, y.2.2.2, 5, Nat.beq y.1 0, none⟩], fun y => y.1 ≤ x.1.length - 1 ∧ y.1 ≤ y.2.2.2, fun y => x.1.length - y.1⟩])
    (fun _ => Nat.le_of_ble_eq_true rfl) (fun ⟨p, ()⟩ hp hw => ?_)
  · have h1 : p.length ≤ 9223372036854775807 := hw (.str p) (List.mem_cons_self ..)
    exact trim_le (by rw [ofN, byt_len]; dsimp only; omega)
  refine vc_of (q :=
      (∃ (x1 : Nat × Nat × Nat × Nat), Eng.SVeq (Eng.SV.slice (999999 : Nat) (0 : Nat) (0 : Nat) [] (0 : Nat) (0 : Nat) (0 : Nat) (0 : Nat) Bool.true) (Eng.SV.slice (500 : Nat) (Prod.fst (Prod.snd x1)) (Prod.fst (Prod.snd (Prod.snd x1))) [] (1 : Nat) (0 : Nat) (Prod.fst x1) (Prod.snd (Prod.snd (Prod.snd x1))) (Nat.beq (Prod.fst x1) (0 : Nat))) ∧ (0 : Int) = (↑(Prod.fst x1) : Int) ∧ (Nat.beq (Prod.fst x1)
      (0 : Nat) = Bool.true ∧ Prod.fst x1 = (0 : Nat) ∧ Prod.snd (Prod.snd (Prod.snd x1)) = (0 : Nat)) ∧ Prod.fst x1 ≤ List.length p - (1 : Nat) ∧ Prod.fst x1 ≤ Prod.snd (Prod.snd (Prod.snd x1))) ∧ ∀ (x2 : Nat × Nat × Nat × Nat), Prod.fst x2 ≤ List.length p - (1 : Nat) ∧ Prod.fst x2 ≤ Prod.snd (Prod.snd (Prod.snd x2)) → ∀ (v1 : Int), v1 = Go.IntKind.wrap Go.IntKind.i64 ((↑(Prod.fst x2) : Int) + (1 :
      Int)) → ∀ (v2 : Int), v2 = (↑(List.length p) : Int) → (Decidable.decide (v1 < v2) = Bool.true → (2 : Int) ≠ (0 : Int) ∧ ∀ (v3 : Int), v3 = Int.tmod (↑(Prod.fst x2) : Int) (2 : Int) → ((v3 == (0 : Int)) = Bool.true → ∀ (v4 : Int), v4 = Go.IntKind.wrap Go.IntKind.i64 ((↑(Prod.fst x2) : Int) + (1 : Int)) → (0 : Int) ≤ v4 ∧ v4 < (↑(List.length p) : Int) ∧ ∀ (b1 : Nat), (Prod.fst (Prod.snd x2) =
      Prod.fst (Prod.snd x2) ∧ Prod.fst (Prod.snd (Prod.snd x2)) = Prod.fst (Prod.snd (Prod.snd x2))) ∧ (Nat.beq (Prod.fst x2) (0 : Nat) = Bool.true → Nat.beq (Prod.fst x2) (0 : Nat) = Bool.true) ∧ (0 : Nat) = (0 : Nat) ∧ Prod.fst x2 ≤ Prod.fst x2 ∧ Prod.snd (Prod.snd (Prod.snd x2)) ≤ Prod.snd (Prod.snd (Prod.snd x2)) ∧ (Prod.fst x2 + (1 : Nat)) * (1 : Nat) ≤ (140737488355328 : Nat) ∧ Prod.fst x2 + (1 :
      Nat) ≤ (9223372036854775807 : Nat) ∧ (1 : Nat) ≤ (1 : Nat) ∧ (b1 = b1 ∧ (0 : Nat) = (0 : Nat)) ∧ ∀ (b2 b3 b4 : Nat), Prod.fst x2 + (1 : Nat) ≤ b4 → b4 ≤ (9223372036854775807 : Nat) → (Nat.beq (Prod.fst x2) (0 : Nat) = Bool.true → (1 : Nat) = (0 : Nat) → b4 = (0 : Nat)) → ∀ (v5 : Int), v5 = Go.IntKind.wrap Go.IntKind.i64 ((↑(Prod.fst x2) : Int) + (1 : Int)) → ∃ (x3 : Nat × Nat × Nat × Nat), (b2 =
      Prod.fst (Prod.snd x3) ∧ b3 = Prod.fst (Prod.snd (Prod.snd x3)) ∧ (0 : Nat) = (0 : Nat) ∧ Prod.fst x2 + (1 : Nat) = Prod.fst x3 ∧ b4 = Prod.snd (Prod.snd (Prod.snd x3)) ∧ (Nat.beq (Prod.fst x2) (0 : Nat) && Decidable.decide ((1 : Nat) = (0 : Nat))) = Nat.beq (Prod.fst x3) (0 : Nat)) ∧ v5 = (↑(Prod.fst x3) : Int) ∧ ((b2 = Prod.fst (Prod.snd x3) ∧ b3 = Prod.fst (Prod.snd (Prod.snd x3)) ∧ (Nat.beq
      (Prod.fst x2) (0 : Nat) && Decidable.decide ((1 : Nat) = (0 : Nat))) = Nat.beq (Prod.fst x3) (0 : Nat) ∧ Prod.fst x3 ≤ Prod.fst x2 + (1 : Nat) ∧ Prod.fst x3 ≤ Prod.snd (Prod.snd (Prod.snd x3)) ∧ Prod.snd (Prod.snd (Prod.snd x3)) ≤ b4) ∧ ∀ (i1 : Nat), i1 < Prod.fst x3 → (if i1 < Prod.fst x2 then (↑(Galois.derN p i1) : Int) else (↑(UInt8.toNat (List.getD p (Int.toNat v4) (0 : UInt8))) : Int)) =
      (↑(Galois.derN p i1) : Int)) ∧ (Prod.fst x3 ≤ List.length p - (1 : Nat) ∧ Prod.fst x3 ≤ Prod.snd (Prod.snd (Prod.snd x3))) ∧ List.length p - Prod.fst x3 < List.length p - Prod.fst x2) ∧ ((v3 == (0 : Int)) = Bool.false → ∀ (b1 : Nat), (Prod.fst (Prod.snd x2) = Prod.fst (Prod.snd x2) ∧ Prod.fst (Prod.snd (Prod.snd x2)) = Prod.fst (Prod.snd (Prod.snd x2))) ∧ (Nat.beq (Prod.fst x2) (0 : Nat) =
      Bool.true → Nat.beq (Prod.fst x2) (0 : Nat) = Bool.true) ∧ (0 : Nat) = (0 : Nat) ∧ Prod.fst x2 ≤ Prod.fst x2 ∧ Prod.snd (Prod.snd (Prod.snd x2)) ≤ Prod.snd (Prod.snd (Prod.snd x2)) ∧ (Prod.fst x2 + (1 : Nat)) * (1 : Nat) ≤ (140737488355328 : Nat) ∧ Prod.fst x2 + (1 : Nat) ≤ (9223372036854775807 : Nat) ∧ (1 : Nat) ≤ (1 : Nat) ∧ (b1 = b1 ∧ (0 : Nat) = (0 : Nat)) ∧ ∀ (b2 b3 b4 : Nat), Prod.fst x2 + (1
      : Nat) ≤ b4 → b4 ≤ (9223372036854775807 : Nat) → (Nat.beq (Prod.fst x2) (0 : Nat) = Bool.true → (1 : Nat) = (0 : Nat) → b4 = (0 : Nat)) → ∀ (v5 : Int), v5 = Go.IntKind.wrap Go.IntKind.i64 ((↑(Prod.fst x2) : Int) + (1 : Int)) → ∃ (x3 : Nat × Nat × Nat × Nat), (b2 = Prod.fst (Prod.snd x3) ∧ b3 = Prod.fst (Prod.snd (Prod.snd x3)) ∧ (0 : Nat) = (0 : Nat) ∧ Prod.fst x2 + (1 : Nat) = Prod.fst x3 ∧ b4 =
      Prod.snd (Prod.snd (Prod.snd x3)) ∧ (Nat.beq (Prod.fst x2) (0 : Nat) && Decidable.decide ((1 : Nat) = (0 : Nat))) = Nat.beq (Prod.fst x3) (0 : Nat)) ∧ v5 = (↑(Prod.fst x3) : Int) ∧ ((b2 = Prod.fst (Prod.snd x3) ∧ b3 = Prod.fst (Prod.snd (Prod.snd x3)) ∧ (Nat.beq (Prod.fst x2) (0 : Nat) && Decidable.decide ((1 : Nat) = (0 : Nat))) = Nat.beq (Prod.fst x3) (0 : Nat) ∧ Prod.fst x3 ≤ Prod.fst x2 + (1 :
      Nat) ∧ Prod.fst x3 ≤ Prod.snd (Prod.snd (Prod.snd x3)) ∧ Prod.snd (Prod.snd (Prod.snd x3)) ≤ b4) ∧ ∀ (i1 : Nat), i1 < Prod.fst x3 → (if i1 < Prod.fst x2 then (↑(Galois.derN p i1) : Int) else (0 : Int)) = (↑(Galois.derN p i1) : Int)) ∧ (Prod.fst x3 ≤ List.length p - (1 : Nat) ∧ Prod.fst x3 ≤ Prod.snd (Prod.snd (Prod.snd x3))) ∧ List.length p - Prod.fst x3 < List.length p - Prod.fst x2)) ∧
      (Decidable.decide (v1 < v2) = Bool.false → Prod.fst x2 ≤ Prod.fst x2 ∧ (∀ (k1 : Nat), k1 < Prod.fst x2 → Bool.true = Bool.true) ∧ (Prod.fst (Prod.snd x2) = Prod.fst (Prod.snd x2) ∧ Prod.fst (Prod.snd (Prod.snd x2)) = Prod.fst (Prod.snd (Prod.snd x2))) ∧ ∀ (s1 : List UInt8), s1 = Byt.of (fun (k : Nat) ↦ (↑(Galois.derN p k) : Int)) (Prod.fst x2) → ∀ (s2 : List UInt8), s2 = Galois.trimL s1 → s2 =
      Galois.derL p)) (by kernel_rfl) ?_
  try simp only [eq_self, true_and, and_true, Nat.le_refl, implies_true, forall_const, Bool.false_eq_true, Bool.true_eq_false, reduceCtorEq, false_imp_iff, true_imp_iff, Int.toNat_zero, Int.toNat_natCast, Nat.zero_lt_one, Int.le_refl, allGet]
  have h1 : p.length ≤ 5000 := hp.1
  refine ⟨⟨(0, 0, 0, 0), nil_eqv rfl rfl rfl, rfl, ⟨rfl, rfl, rfl⟩, Nat.zero_le _, Nat.le_refl _⟩, ?_⟩
  rintro ⟨n, b, o, c⟩ ⟨hn, hc⟩
  dsimp only at hn hc ⊢
  intro v1 hv1 v2 hv2
  rw [w64_id (by omega) (by omega)] at hv1
  have app : ∀ u : Int, u = (derN p n : Nat) → n < p.length - 1 → ∀ (b2 b3 b4 : Nat), n + 1 ≤ b4 → b4 ≤ 9223372036854775807 → ∀ v5 : Int, v5 = IntKind.i64.wrap ((n : Int) + 1) →
      ∃ x3 : Nat × Nat × Nat × Nat, (b2 = x3.2.1 ∧ b3 = x3.2.2.1 ∧ n + 1 = x3.1 ∧ b4 = x3.2.2.2 ∧ (Nat.beq n 0 && decide False) = Nat.beq x3.1 0) ∧ v5 = (x3.1 : Int) ∧
        ((b2 = x3.2.1 ∧ b3 = x3.2.2.1 ∧ (Nat.beq n 0 && decide False) = Nat.beq x3.1 0 ∧ x3.1 ≤ n + 1 ∧ x3.1 ≤ x3.2.2.2 ∧ x3.2.2.2 ≤ b4) ∧ ∀ i1 : Nat, i1 < x3.1 → (if i1 < n then ((derN p i1 : Nat) : Int) else u) = ((derN p i1 : Nat) : Int)) ∧
        (x3.1 ≤ p.length - 1 ∧ x3.1 ≤ x3.2.2.2) ∧ p.length - x3.1 < p.length - n := by
    intro u hu hlt b2 b3 b4 g1 g2 v5 h5
    refine ⟨(n + 1, b2, b3, b4), ⟨rfl, rfl, rfl, rfl, ?_⟩, h5.trans (l_succ (by omega)), ⟨⟨rfl, rfl, ?_, Nat.le_refl _, g1, Nat.le_refl _⟩, fun k hk => ?_⟩, ⟨by show n + 1 ≤ _; omega, g1⟩, by show p.length - (n + 1) < _; omega⟩
    · cases Nat.beq n 0 <;> rfl
    · cases Nat.beq n 0 <;> rfl
    · by_cases e : k < n
      · rw [if_pos e]
      · rw [if_neg e]
        obtain rfl : k = n := by dsimp only at hk; omega
        exact hu
  refine ⟨fun hc => ⟨by decide, fun v3 h3 => ⟨fun he v4 h4 => ?_, fun he => ?_⟩⟩, fun hc s1 hs1 s2 hs2 => ?_⟩
  · have hc := of_decide_eq_true hc
    rw [w64_id (by omega) (by omega)] at h4
    refine ⟨by omega, by omega, fun h => h, by omega, by omega, app _ ?_ (by omega)⟩
    have e4 : v4.toNat = n + 1 := by omega
    have : n % 2 = 0 := by
      rw [h3, Int.tmod_eq_emod_of_nonneg (by omega)] at he
      have : (n : Int) % 2 = 0 := by simpa using he
      omega
    rw [e4]
    unfold derN
    rw [if_pos this]
    rfl
  · have hc := of_decide_eq_true hc
    refine ⟨fun h => h, by omega, by omega, app _ ?_ (by omega)⟩
    have : n % 2 ≠ 0 := by
      rw [h3, Int.tmod_eq_emod_of_nonneg (by omega)] at he
      have : ¬ (n : Int) % 2 = 0 := by simpa using he
      omega
    unfold derN
    rw [if_neg this]
    rfl
  · have hc := of_decide_eq_false hc
    obtain rfl : n = p.length - 1 := by omega
    rw [hs2, hs1]
    rfl
end Galois
