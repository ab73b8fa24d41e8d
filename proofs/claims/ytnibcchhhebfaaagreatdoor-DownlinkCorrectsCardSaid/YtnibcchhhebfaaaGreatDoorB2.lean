/-
  OWN WORK. Block: Encode, both programs.
-/
import Derived.Test.YtnibcchhhebfaaaGreatDoorG7
namespace Galois
open Go Go.Proofs Eng
set_option linter.unusedVariables false
set_option linter.unusedSimpArgs false

/-! ### sums of bytes -/
def X (f : Nat → Nat) : Nat → Nat
  | 0 => 0
  | n + 1 => Nat.xor (X f n) (f n)
theorem X_congr {f g : Nat → Nat} : ∀ n, (∀ j, j < n → f j = g j) → X f n = X g n
  | 0, _ => rfl
  | n + 1, h => by simp only [X]; rw [X_congr n fun j hj => h j (by omega), h n (by omega)]
theorem xor_mix (a b c d : Nat) : Nat.xor (Nat.xor a b) (Nat.xor c d) = Nat.xor (Nat.xor a c) (Nat.xor b d) := by
  show (a ^^^ b) ^^^ (c ^^^ d) = (a ^^^ c) ^^^ (b ^^^ d)
  ac_rfl
theorem X_xor (f g : Nat → Nat) : ∀ n, X (fun j => Nat.xor (f j) (g j)) n = Nat.xor (X f n) (X g n)
  | 0 => by show 0 = Nat.xor 0 0; decide
  | n + 1 => by
    simp only [X]
    rw [X_xor f g n, xor_mix]
theorem X_zero : ∀ n, X (fun _ => 0) n = 0
  | 0 => rfl
  | n + 1 => by simp only [X]; rw [X_zero n]; rfl
theorem X_at (a v : Nat) : ∀ n, X (fun j => if j = a then v else 0) n = if a < n then v else 0
  | 0 => by simp [X]
  | n + 1 => by
    simp only [X]
    rw [X_at a v n]
    by_cases h1 : n = a
    · subst h1
      rw [if_neg (by omega), if_pos rfl, if_pos (by omega), xor0']
    · rw [if_neg h1, xor0]
      by_cases h2 : a < n
      · rw [if_pos h2, if_pos (by omega)]
      · rw [if_neg h2, if_neg (by omega)]
/-! ### products -/
def cv (F G : Nat → Nat) (k : Nat) : Nat := X (fun j => gmul (F j) (G (k - j))) (k + 1)
theorem co_tl {p : List UInt8} {j : Nat} (h : tlen p ≤ j) : co p j = 0 := by
  rw [tlen_eq] at h
  by_cases h2 : j < p.length
  · exact tl_zero h h2
  · exact co_over (by omega)
/-! ### values -/
def ev (F : Nat → Nat) (x N : Nat) : Nat := X (fun j => gmul (F j) (gpow x j)) N
/-! ### derivatives -/
theorem cv_congr {F G F' G' : Nat → Nat} (h1 : ∀ k, F k = F' k) (h2 : ∀ k, G k = G' k) (k : Nat) : cv F G k = cv F' G' k := X_congr _ fun j _ => by rw [h1, h2]
/-! ### quotients -/
theorem cv_add {F G : Nat → Nat} {a c : Nat} (hF : ∀ k, F k < 256) (hc : c < 256) (hG : ∀ k, G k < 256) (h0 : F a = 0) (k : Nat) :
    cv (fun j => if j = a then c else F j) G k = Nat.xor (cv F G k) (if a ≤ k then gmul c (G (k - a)) else 0) := by
  have e : (if a ≤ k then gmul c (G (k - a)) else 0) = X (fun j => if j = a then gmul c (G (k - a)) else 0) (k + 1) := by
    rw [X_at]
    by_cases h : a ≤ k
    · rw [if_pos h, if_pos (by omega)]
    · rw [if_neg h, if_neg (by omega)]
  rw [e]
  unfold cv
  rw [← X_xor]
  refine X_congr _ fun j _ => ?_
  dsimp only
  by_cases h : j = a
  · subst h
    rw [if_pos rfl, if_pos rfl, h0, gzero_mul (hG _), xor0']
  · rw [if_neg h, if_neg h, xor0]
theorem qst_inv (p q : List UInt8) {L : Nat} : ∀ t, t + (tlen q - 1) ≤ L → ∀ k, co p k = Nat.xor (cv (qst p q L t).2 (co q) k) ((qst p q L t).1 k)
  | 0, _, k => by
    show co p k = Nat.xor (cv (fun _ => 0) (co q) k) (co p k)
    have : cv (fun _ => 0) (co q) k = 0 := by
      unfold cv
      rw [X_congr (g := fun _ => 0) _ fun j _ => gzero_mul (co_lt q _), X_zero]
    rw [this, xor0']
  | t + 1, ht, k => by
    have ih := qst_inv p q (L := L) t (by omega) k
    have hz := qst_zero p q L t (L - 1 - t - (tlen q - 1)) (by omega) (by omega)
    show co p k = Nat.xor (cv (fun j => if j = L - 1 - t - (tlen q - 1) then qc q (L - 1 - t) (qst p q L t) else (qst p q L t).2 j) (co q) k) (spr (qst p q L t).1 q (L - 1 - t - (tlen q - 1)) (qc q (L - 1 - t) (qst p q L t)) k)
    rw [cv_add (fun k => (qst_lt p q L t k).2) (qc_lt q _ _) (co_lt q) hz, ih]
    unfold spr
    by_cases h : L - 1 - t - (tlen q - 1) ≤ k
    · rw [if_pos h, if_pos h]
      show _ = Nat.xor (Nat.xor (cv (qst p q L t).2 (co q) k) _) (Nat.xor ((qst p q L t).1 k) _)
      rw [xor_mix, show ∀ u : Nat, Nat.xor u u = 0 from Nat.xor_self, xor0]
    · rw [if_neg h, if_neg h, xor0]
/-- What was done with is 0. -/
theorem qst_done (p q : List UInt8) {L : Nat} (hL : tlen p ≤ L) (hq : tlen q ≠ 0) : ∀ t, t + (tlen q - 1) ≤ L → ∀ k, L - t ≤ k → (qst p q L t).1 k = 0
  | 0, _, k, hk => co_tl (by omega)
  | t + 1, ht, k, hk => by
    show spr (qst p q L t).1 q (L - 1 - t - (tlen q - 1)) (qc q (L - 1 - t) (qst p q L t)) k = 0
    unfold spr
    rw [if_pos (by omega)]
    by_cases e : k = L - 1 - t
    · subst e
      rw [show L - 1 - t - (L - 1 - t - (tlen q - 1)) = tlen q - 1 by omega]
      unfold qc
      rw [gdiv_mul (qst_lt p q L t _).1 (co_lt q _) (lead_ne hq)]
      exact Nat.xor_self _
    · rw [qst_done p q hL hq t (by omega) k (by omega), co_tl (by omega), gmul_zero]
      rfl
theorem quot_facts {p q : List UInt8} (hq : tlen q ≠ 0) : (∀ k, co p k = Nat.xor (cv (co (quoL p q)) (co q) k) (co (resL p q) k)) ∧ tlen (resL p q) ≤ tlen q - 1 := by
  have hlt := fun k => qst_lt p q (tlen p) (tlen p - (tlen q - 1)) k
  have hov : ∀ k, tlen p ≤ k → (qfin p q (tlen p)).1 k = 0 ∧ (qfin p q (tlen p)).2 k = 0 := fun k hk => by
    unfold qfin
    by_cases h : tlen q - 1 ≤ tlen p
    · exact qst_over p q (Nat.le_refl _) (by omega) _ (by omega) k hk
    · rw [show tlen p - (tlen q - 1) = 0 by omega]
      exact ⟨co_tl hk, rfl⟩
  have hd : ∀ k, tlen q - 1 ≤ k → (qfin p q (tlen p)).1 k = 0 := fun k hk => by
    unfold qfin
    by_cases h : tlen q - 1 ≤ tlen p
    · exact qst_done p q (Nat.le_refl _) hq _ (by omega) k (by omega)
    · rw [show tlen p - (tlen q - 1) = 0 by omega]
      exact co_tl (by omega)
  have c1 : ∀ k, co (quoL p q) k = (qfin p q (tlen p)).2 k := fun k => by
    unfold quoL
    rw [if_neg hq, co_trim]
    exact co_ofN (fun k => (hlt k).2) (fun k hk => (hov k hk).2) k
  have c2 : ∀ k, co (resL p q) k = (qfin p q (tlen p)).1 k := fun k => by
    unfold resL
    rw [if_neg hq, co_trim]
    exact co_ofN (fun k => (hlt k).1) (fun k hk => (hov k hk).1) k
  refine ⟨fun k => ?_, ?_⟩
  · rw [cv_congr c1 fun _ => rfl, c2]
    unfold qfin
    by_cases h : tlen q - 1 ≤ tlen p
    · exact qst_inv p q _ (by omega) k
    · rw [show tlen p - (tlen q - 1) = 0 by omega]
      exact qst_inv p q (L := tlen q - 1) 0 (by omega) k
  · have e := tlen_eq (resL p q)
    apply Nat.le_of_not_lt
    intro h
    have := tl_ne (F := co (resL p q)) (n := (resL p q).length) (by omega)
    rw [← e, c2, hd _ (by omega)] at this
    exact this rfl
end Galois
namespace Galois
open Go Go.Proofs Eng
set_option linter.unusedVariables false
set_option linter.unusedSimpArgs false
set_option maxHeartbeats 4000000
set_option maxRecDepth 100000

/-- A contract that leaves nothing new is one without effects. -/
theorem pc_of_ec {P : Program} {α : Type} {L : ArgL α} {pre : α → List Prop} {res : α → SV} {f : FuncId} (h : EcOk P f (ecC L pre (fun _ (_ : Unit) => True) (fun x _ => res x) (fun _ _ => []) 0))
    (hom : ∀ args H, L.om 0 args H = []) (hres : ∀ x, allT (pre x) → (res x).wf) : PcOk P f (pcOf L pre res) := by
  intro args H ps v hc hw hp hX
  unfold pcOf at hc
  split at hc
  · rename_i qs x hx
    simp only [Option.some.injEq, Prod.mk.injEq] at hc
    obtain ⟨rfl, rfl⟩ := hc
    obtain ⟨p1, p2⟩ := allTrue_append hp
    have p2 := (pOb_true _).1 p2
    obtain ⟨g1, g2⟩ := h args H 0 (fun r H' _ => r.den = (res x).den ∧ H' = H) (by
      unfold ecC
      rw [hx]
      dsimp only
      rw [hom]
      have hB : apartB (L.rt args H) (sndL []) = true := rfl
      rw [hB]
      dsimp only
      rw [allL_iff]
      refine ⟨p1, fun x' hx' => ?_⟩
      subst hx'
      rw [allL_iff]
      refine ⟨(pOb_true _).2 p2, fun y _ => ⟨(rt_eq _ _).1, ?_⟩⟩
      show Hp.app [] (Hp.minus [] H) = H
      have : ∀ H : Hp, Hp.minus [] H = H := fun H => by
        induction H with
        | nil => rfl
        | cons e r ih => show e :: Hp.minus [] r = _; rw [ih]
      rw [this]
      rfl) hw
    refine ⟨hres x p2, g1, fun C w hS => (g2 C w hS).mono ?_⟩
    rintro e w' ⟨r, H', nx', ⟨k1, rfl⟩, k3, rfl, k4⟩
    exact ⟨by rw [k1], k4⟩
  · cases hc
def powP := pcOf aPow (fun x => [isB x.1, -9223372036854775808 ≤ x.2.1 ∧ x.2.1 ≤ 9223372036854775807]) (fun x => .tup [.int .u8 (powI x.1 x.2.1), .int .i64 (errB (x.1 == 0 && decide (x.2.1 < 0)))])
theorem powP_ok : PcOk Tryz.prog 162 powP := pc_of_ec pow_ok (by intro args H; rcases args with _ | ⟨_, _ | ⟨_, _⟩⟩ <;> rfl) (fun _ _ => ⟨trivial, trivial, trivial⟩)
def divP := pcOf aMul (fun x => [isB x.1, isB x.2.1]) (fun x => .tup [.int .u8 (divI x.1 x.2.1), .int .i64 (errB (x.2.1 == 0))])
theorem divP_ok : PcOk Tryz.prog 139 divP := pc_of_ec div_ok (by intro args H; rcases args with _ | ⟨_, _ | ⟨_, _⟩⟩ <;> rfl) (fun _ _ => ⟨trivial, trivial, trivial⟩)
theorem trimL_le (l : List UInt8) : (trimL l).length ≤ l.length := by rw [trimL_len]; exact tlen_le l
def productP := pcOf aStrS (fun x => [x.1.length ≤ 3000, x.2.1.length ≤ 3000]) (fun x => .tup [.str (prodL x.1 x.2.1), .int .i64 (if prodB x.1 x.2.1 then 3 else 0)])
theorem prodL_len {p q : List UInt8} (h1 : p.length ≤ 3000) (h2 : q.length ≤ 3000) : (prodL p q).length ≤ 6000 := by
  unfold prodL
  split
  · exact Nat.zero_le _
  · refine Nat.le_trans (trimL_le _) ?_
    rw [ofN_len]
    have := tlen_le p
    have := tlen_le q
    omega
theorem productP_ok : PcOk Tryz.prog 144 productP := pc_of_ec product_ok (by intro args H; rcases args with _ | ⟨_, _ | ⟨_, _⟩⟩ <;> rfl) (fun x h => ⟨Nat.le_trans (prodL_len h.1 h.2.1) (by omega), trivial, trivial⟩)
def quotientP := pcOf aStrS (fun x => [x.1.length ≤ 3000, x.2.1.length ≤ 3000]) (fun x => .tup [.str (quoL x.1 x.2.1), .str (resL x.1 x.2.1), .int .i64 (if tlen x.2.1 = 0 then 2 else 0)])
theorem quoL_len {p q : List UInt8} (h1 : p.length ≤ 3000) : (quoL p q).length ≤ 3000 := by
  unfold quoL
  split
  · exact Nat.zero_le _
  · refine Nat.le_trans (trimL_le _) ?_
    rw [ofN_len]
    have := tlen_le p
    omega
theorem resL_len {p q : List UInt8} (h1 : p.length ≤ 3000) : (resL p q).length ≤ 3000 := by
  unfold resL
  split
  · exact Nat.zero_le _
  · refine Nat.le_trans (trimL_le _) ?_
    rw [ofN_len]
    have := tlen_le p
    omega
theorem quotientP_ok : PcOk Tryz.prog 112 quotientP := pc_of_ec quotient_ok (by intro args H; rcases args with _ | ⟨_, _ | ⟨_, _⟩⟩ <;> rfl) (fun x h => ⟨Nat.le_trans (quoL_len h.1) (by omega), Nat.le_trans (resL_len h.1) (by omega), trivial, trivial⟩)
def EBA : Env := (((((((EM.addP 162 powP)).addP 139 divP)).addP 144 productP)).addP 112 quotientP)
theorem EBA_ok : EnvOk Tryz.prog EBA := (((((((EM_ok.addP powP_ok)).addP divP_ok)).addP productP_ok)).addP quotientP_ok)
/-! ### powers of 2 -/
abbrev aInt1 : ArgL (Int × Unit) := .cons (.elt (.int .i64)) .nil
def power := pcOf aInt1 (fun x => [-9223372036854775808 ≤ x.1 ∧ x.1 ≤ 9223372036854775807]) (fun x => .int .u8 (powI 2 x.1))
theorem power_ok : PcOk Tryz.prog 145 power := by
  refine pcOf_run (fun _ => EBA_ok) Tryz.func145 rfl (by kernel_rfl) (fun _ => trivial) (fun _ => []) (fun _ => Nat.le_of_ble_eq_true rfl) (fun ⟨n, ()⟩ hp hw => ?_)
  refine vc_of (q :=
      ((0:Int)≤(2:Int)∧(2:Int)≤(255:Int))∧((-9223372036854775808:Int)≤n∧n≤(9223372036854775807:Int))∧∀ (v1:Int), v1=powI (2:Int) n→∀ (v2:Int), v2=errB ((2:Int)==(0:Int)&&decide (n < (0:Int)))→v1=powI (2:Int) n) (by kernel_rfl) ?_
  try simp only [eq_self, true_and, and_true, Nat.le_refl, implies_true, forall_const, Bool.false_eq_true, Bool.true_eq_false, reduceCtorEq, false_imp_iff, true_imp_iff, Int.toNat_zero, Int.toNat_natCast, Nat.zero_lt_one, Int.le_refl, allGet]
  exact ⟨⟨by decide, by decide⟩, hp.1, fun v1 h1 v2 h2 => h1⟩
/-! ### slices.Reverse -/
abbrev aOwn8 : ArgL (OwnD Int × Unit) := .cons (.orow 5 (.int .u8)) .nil
def revF (f : Nat → Int) (n i k : Nat) : Int := if k < i ∨ (k < n ∧ n ≤ k + i) then f (n - 1 - k) else f k
def reverse := ecU aOwn8 (fun x => [x.1.n ≤ x.1.m, x.1.m ≤ x.1.cap, x.1.n ≤ 1000000]) (fun _ (_ : Unit) => True) (fun x _ => ({ x.1 with f := fun k => if k < x.1.n then x.1.f (x.1.n - 1 - k) else x.1.f k }, ())) (fun _ _ => .tup [])
theorem rev_step {f : Nat → Int} {n i : Nat} (h : 2 * i + 1 < n) (k : Nat) : (if k = n - 1 - i then revF f n i i else if k = i then revF f n i (n - 1 - i) else revF f n i k) = revF f n (i + 1) k := by
  unfold revF
  by_cases h1 : k = n - 1 - i
  · rw [if_pos h1, if_neg (by omega), if_pos (by omega), show n - 1 - k = i by omega]
  · rw [if_neg h1]
    by_cases h2 : k = i
    · rw [if_pos h2, if_neg (by omega), if_pos (by omega), h2]
    · rw [if_neg h2]
      by_cases h3 : k < i ∨ (k < n ∧ n ≤ k + i)
      · rw [if_pos h3, if_pos (by omega)]
      · rw [if_neg h3, if_neg (by omega)]
theorem rev_end {f : Nat → Int} {n i : Nat} (h : n ≤ 2 * i + 1) (h2 : 2 * i ≤ n + 1) (k : Nat) : revF f n i k = if k < n then f (n - 1 - k) else f k := by
  unfold revF
  by_cases h1 : k < n
  · rw [if_pos h1]
    by_cases h3 : k < i ∨ (k < n ∧ n ≤ k + i)
    · rw [if_pos h3]
    · rw [if_neg h3, show n - 1 - k = k by omega]
  · rw [if_neg h1, if_neg (by omega)]
theorem reverse_ok : EcOk Tryz.prog 143 reverse := by
  refine ecC_run (fun _ => E0_ok) Tryz.func143 rfl (by kernel_rfl) []
    (fun x => [.loop ⟨1, Nat, [0, 2, 3], fun y => [.slice 0 x.1.b x.1.off [] 1 0 x.1.n x.1.c x.1.z, .int .i64 (y : Nat), .int .i64 ((x.1.n : Int) - 1 - (y : Nat))], [0], fun y => [⟨0, x.1.b, x.1.off, 1, x.1.m, fun i => .int .u8 (revF x.1.f x.1.n y i), true, false, x.1.cap, 5, x.1.ez, none⟩],
        fun y => 2 * y ≤ x.1.n + 1, fun y => x.1.n - y⟩,
      .draw 3 (.take 0 (.take 1 (.take 2 (.take 3 (.take 4 (.take 5 (.take 6 (.take 8 (.take 9 (.take 10 (.br 7 (.br 11 (.take 12 (.br 13 (.take 14 (.br 15 .fin .stop)) .stop)) .stop) (.br 11 (.br 7 (.take 12 (.br 13 (.take 14 (.br 15 .fin .stop)) .stop)) .stop) .stop)))))))))))) [0]])
    (fun _ => Nat.le_of_ble_eq_true rfl) (fun ⟨⟨b, off, n, c, z, m, cap, ez, f⟩, ()⟩ hp hw => ?_)
  refine vc_of (q :=
      ∀ (v1:Int), v1=(↑n:Int)→∀ (v2:Int), v2=IntKind.i64.wrap (v1 - (1:Int))→(∃ (x1:Nat), (b=b∧off=off∧0=0∧n=n∧c=c∧z=z)∧(0:Int)=(↑x1:Int)∧v2=(↑n:Int) - (1:Int) - (↑x1:Int)∧((b=b∧off=off∧ez=ez∧m≤m∧m≤cap∧cap≤cap)∧∀ (i1:Nat), i1 < m→f i1=revF f n x1 i1)∧Nat.le (2*x1) (n+1))∧∀ (b1:Nat), 2*b1≤n+1→(decide ((↑b1:Int) < (↑n:Int) - (1:Int) - (↑b1:Int))=true→(0:Int)≤(↑n:Int) - (1:Int) - (↑b1:Int)∧(↑n:Int) -
      (1:Int) - (↑b1:Int) < (↑n:Int)∧(0:Int)≤(↑b1:Int)∧(↑b1:Int) < (↑n:Int)∧((b=b∧off=off)∧Int.toNat ((↑n:Int) - (1:Int) - (↑b1:Int)) < m∧((b=b∧off=off)∧Int.toNat (↑b1:Int) < m∧(0:Int)≤(↑b1:Int)∧(↑b1:Int) < (↑n:Int)∧((b=b∧off=off)∧Int.toNat (↑b1:Int) < m∧(0:Int)≤(↑n:Int) - (1:Int) - (↑b1:Int)∧(↑n:Int) - (1:Int) - (↑b1:Int) < (↑n:Int)∧((b=b∧off=off)∧Int.toNat ((↑n:Int) - (1:Int) - (↑b1:Int)) < m∧∀
      (v3:Int), v3=IntKind.i64.wrap ((↑b1:Int)+(1:Int))→∀ (v4:Int), v4=IntKind.i64.wrap ((↑n:Int) - (1:Int) - (↑b1:Int) - (1:Int))→∃ (x2:Nat), (b=b∧off=off∧0=0∧n=n∧c=c∧z=z)∧v3=(↑x2:Int)∧v4=(↑n:Int) - (1:Int) - (↑x2:Int)∧((b=b∧off=off∧ez=ez∧m≤m∧m≤cap∧cap≤cap)∧∀ (i2:Nat), i2 < m→(if i2=Int.toNat ((↑n:Int) - (1:Int) - (↑b1:Int)) then revF f n b1 (Int.toNat (↑b1:Int)) else if i2=Int.toNat (↑b1:Int) then revF
      f n b1 (Int.toNat ((↑n:Int) - (1:Int) - (↑b1:Int))) else revF f n b1 i2)=revF f n x2 i2)∧2*x2≤n+1∧n - x2 < n - b1)∧True)∧True)∧True)∧((b=b∧off=off)∧Int.toNat (↑b1:Int) < m∧((b=b∧off=off)∧Int.toNat ((↑n:Int) - (1:Int) - (↑b1:Int)) < m∧(0:Int)≤(↑b1:Int)∧(↑b1:Int) < (↑n:Int)∧((b=b∧off=off)∧Int.toNat (↑b1:Int) < m∧(0:Int)≤(↑n:Int) - (1:Int) - (↑b1:Int)∧(↑n:Int) - (1:Int) - (↑b1:Int) <
      (↑n:Int)∧((b=b∧off=off)∧Int.toNat ((↑n:Int) - (1:Int) - (↑b1:Int)) < m∧∀ (v4:Int), v4=IntKind.i64.wrap ((↑b1:Int)+(1:Int))→∀ (v5:Int), v5=IntKind.i64.wrap ((↑n:Int) - (1:Int) - (↑b1:Int) - (1:Int))→∃ (x2:Nat), (b=b∧off=off∧0=0∧n=n∧c=c∧z=z)∧v4=(↑x2:Int)∧v5=(↑n:Int) - (1:Int) - (↑x2:Int)∧((b=b∧off=off∧ez=ez∧m≤m∧m≤cap∧cap≤cap)∧∀ (i2:Nat), i2 < m→(if i2=Int.toNat ((↑n:Int) - (1:Int) - (↑b1:Int)) then
      revF f n b1 (Int.toNat (↑b1:Int)) else if i2=Int.toNat (↑b1:Int) then revF f n b1 (Int.toNat ((↑n:Int) - (1:Int) - (↑b1:Int))) else revF f n b1 i2)=revF f n x2 i2)∧2*x2≤n+1∧n - x2 < n - b1)∧True)∧True)∧True)∧True)∧(decide ((↑b1:Int) < (↑n:Int) - (1:Int) - (↑b1:Int))=false→∃ (x2:Unit), True∧((b=b∧off=off∧ez=ez∧m≤m∧m≤cap∧cap≤cap)∧∀ (i2:Nat), i2 < m→revF f n b1 i2=if i2 < n then f (n - 1 - i2) else f
      i2)∧True)) (by kernel_rfl) ?_
  try simp only [eq_self, true_and, and_true, Nat.le_refl, implies_true, forall_const, Bool.false_eq_true, Bool.true_eq_false, reduceCtorEq, false_imp_iff, true_imp_iff, Int.toNat_zero, Int.toNat_natCast, Nat.zero_lt_one, Int.le_refl, allGet]
  obtain ⟨p1, p2, p3, _⟩ := hp
  dsimp only at p1 p2 p3
  intro v1 hv1 v2 hv2
  have e2 : v2 = (n : Int) - 1 := by rw [hv2, hv1, w64_id (by omega) (by omega)]
  refine ⟨⟨0, rfl, by omega, ⟨p2, fun i hi => ?_⟩, Nat.zero_le _⟩, fun i hi => ⟨fun hlt => ?_, fun hge => ⟨(), p2, fun k hk => ?_⟩⟩⟩
  · unfold revF
    rw [if_neg (by omega)]
  · have hlt := of_decide_eq_true hlt
    have et : ((n : Int) - 1 - (i : Nat)).toNat = n - 1 - i := by omega
    have key : ∀ v3 : Int, v3 = IntKind.i64.wrap ((i : Int) + 1) → ∀ v4 : Int, v4 = IntKind.i64.wrap ((n : Int) - 1 - (i : Nat) - 1) → ∃ x2 : Nat, v3 = (x2 : Int) ∧ v4 = (n : Int) - 1 - (x2 : Nat) ∧ (m ≤ cap ∧ ∀ k, k < m → (if k = ((n : Int) - 1 - (i : Nat)).toNat then revF f n i i else if k = i then revF f n i ((n : Int) - 1 - (i : Nat)).toNat else revF f n i k) = revF f n x2 k) ∧ 2 * x2 ≤ n + 1 ∧ n - x2 < n - i := by
      intro v3 h3 v4 h4
      refine ⟨i + 1, h3.trans (l_succ (by omega)), by rw [h4, w64_id (by omega) (by omega)]; omega, ⟨p2, fun k hk => ?_⟩, by omega, by omega⟩
      rw [et]
      exact rev_step (by omega) k
    exact ⟨by omega, by omega, by omega, by omega, ⟨by omega, by omega, by omega, by omega, by omega, by omega, by omega, by omega, key⟩, by omega, by omega, by omega, by omega, by omega, by omega, by omega, by omega, key⟩
  · have hge := of_decide_eq_false hge
    exact rev_end (by omega) hi k
def EBB : Env := ((EBA.addP 145 power)).addE 143 reverse
theorem EBB_ok : EnvOk Tryz.prog EBB := ((EBA_ok.addP power_ok)).addE reverse_ok
/-! ### strings backwards -/
theorem bof_congr {f g : Nat → Int} {n : Nat} (h : ∀ k, k < n → f k = g k) : Byt.of f n = Byt.of g n := by
  unfold Byt.of
  exact List.map_congr_left fun k hk => by rw [h k (List.mem_range.1 hk)]
def revL (l : List UInt8) : List UInt8 := Byt.of (fun k => ((l.getD (l.length - 1 - k) 0).toNat : Int)) l.length
theorem revL_len (l : List UInt8) : (revL l).length = l.length := by simp [revL, Byt.of]
def back := pcOf aStr (fun x => [x.1.length ≤ 1000000]) (fun x => .str (revL x.1))
theorem back_ok : PcOk Tryz.prog 113 back := by
  refine pcOf_runS (fun _ => EBB_ok) Tryz.func113 rfl (by kernel_rfl) (fun x hw => by show (revL x.1).length ≤ _; rw [revL_len]; exact hw _ (List.mem_cons_self ..)) (fun x => []) (fun _ => Nat.le_of_ble_eq_true rfl) (fun ⟨l, ()⟩ hp hw => ?_)
  refine vc_of (q :=
      ∀ (b1 b2:Nat), List.length l≤b2→b2≤9223372036854775807→(b1=b1∧0=0)∧(0=0∧∀ (k1:Nat), k1 < List.length l→true=true)∧∀ (x'1:Eng.OwnD Int × Unit), x'1=(Eng.OwnD.mk b1 0 (List.length l) b2 false (List.length l) b2 false fun (k:Nat) ↦ (↑(UInt8.toNat (List.getD l k 0)):Int), ())→Eng.OwnD.n (Prod.fst x'1)≤Eng.OwnD.m (Prod.fst x'1)∧Eng.OwnD.m (Prod.fst x'1)≤Eng.OwnD.cap (Prod.fst x'1)∧Eng.OwnD.n (Prod.fst
      x'1)≤1000000∧∀ (y1:Unit), True→List.length l≤Eng.OwnD.m (Prod.fst x'1)∧(∀ (k2:Nat), k2 < List.length l→true=true)∧(Eng.OwnD.b (Prod.fst x'1)=b1∧Eng.OwnD.off (Prod.fst x'1)=0)∧∀ (s1:List UInt8), s1=Byt.of (fun (k:Nat) ↦ if k < Eng.OwnD.n (Prod.fst x'1) then Eng.OwnD.f (Prod.fst x'1) (Eng.OwnD.n (Prod.fst x'1) - 1 - k) else Eng.OwnD.f (Prod.fst x'1) k) (List.length l)→s1=revL l) (by kernel_rfl) ?_
  try simp only [eq_self, true_and, and_true, Nat.le_refl, implies_true, forall_const, Bool.false_eq_true, Bool.true_eq_false, reduceCtorEq, false_imp_iff, true_imp_iff, Int.toNat_zero, Int.toNat_natCast, Nat.zero_lt_one, Int.le_refl, allGet]
  intro b1 b2 h1 h2 x'1 hx1
  subst hx1
  refine ⟨Nat.le_refl _, h1, hp.1, Nat.le_refl _, ⟨rfl, rfl⟩, fun s1 hs1 => ?_⟩
  rw [hs1]
  exact bof_congr fun k hk => if_pos hk
/-! ### the generator -/
def genK : Nat → List UInt8
  | 0 => [1]
  | i + 1 => prodL (genK i) [UInt8.ofNat (powI 2 (i : Nat)).toNat, 1]
def gener := pcOf .nil (fun _ => []) (fun _ => .str (genK 8))
theorem genK_small : ∀ i, i < 9 → (genK i).length ≤ 9 := fun i hi => by
  have h : allN (fun i => Nat.ble (genK i).length 9) 9 = true := by kernel_rfl
  exact Nat.le_of_ble_eq_true (allN_true h i hi)
def EBC : Env := (EBB.addP 113 back)
theorem EBC_ok : EnvOk Tryz.prog EBC := (EBB_ok.addP back_ok)
theorem gener_ok : PcOk Tryz.prog 114 gener := by
  refine pcOf_run (fun _ => EBC_ok) Tryz.func114 rfl (by kernel_rfl) (fun _ => Nat.le_trans (genK_small 8 (by omega)) (by omega))
    (fun x => [.lp 3 Nat [1, 3] (fun i => [.str (genK i), .int .i64 (i : Nat)]) (fun i => i ≤ 8) fun i => 8 - i]) (fun _ => Nat.le_of_ble_eq_true rfl) (fun () hp hw => ?_)
  refine vc_of (q :=
      (∃ (x1:Nat), [(1:UInt8)]=genK x1∧(0:Int)=(↑x1:Int)∧Nat.le x1 8)∧∀ (b1:Nat), b1≤8→(decide ((↑b1:Int) < (8:Int))=true→((-9223372036854775808:Int)≤(↑b1:Int)∧(↑b1:Int)≤(9223372036854775807:Int))∧∀ (v1:Int), v1=powI (2:Int) (↑b1:Int)→∀ (b2:Nat), 2≤2∧(∀ (k1:Nat), k1 < 2→true=true)∧(b2=b2∧0=0)∧∀ (s1:List UInt8), s1=Byt.of (fun (k:Nat) ↦ if k=0 then v1 else (1:Int)) 2→List.length (genK b1)≤3000∧List.length
      s1≤3000∧∀ (s2:List UInt8), s2=prodL (genK b1) s1→∀ (v2:Int), (v2=if prodB (genK b1) s1=true then (3:Int) else (0:Int))→∀ (v3:Int), v3=IntKind.i64.wrap ((↑b1:Int)+(1:Int))→∃ (x2:Nat), s2=genK x2∧v3=(↑x2:Int)∧x2≤8∧8 - x2 < 8 - b1)∧(decide ((↑b1:Int) < (8:Int))=false→genK b1=genK 8)) (by kernel_rfl) ?_
  try simp only [eq_self, true_and, and_true, Nat.le_refl, implies_true, forall_const, Bool.false_eq_true, Bool.true_eq_false, reduceCtorEq, false_imp_iff, true_imp_iff, Int.toNat_zero, Int.toNat_natCast, Nat.zero_lt_one, Int.le_refl, allGet]
  refine ⟨⟨0, rfl, rfl, Nat.zero_le _⟩, fun i hi => ⟨fun hlt => ?_, fun hge => ?_⟩⟩
  · have hlt := of_decide_eq_true hlt
    refine ⟨by omega, fun v1 hv1 s1 hs1 => ?_⟩
    have e1 : s1 = [UInt8.ofNat (powI 2 (i : Nat)).toNat, 1] := by rw [hs1, hv1]; rfl
    refine ⟨Nat.le_trans (genK_small i (by omega)) (by omega), by rw [e1]; show 2 ≤ 3000; omega, fun s2 hs2 v2 _ v3 hv3 => ⟨i + 1, by rw [hs2, e1]; rfl, hv3.trans (l_succ (by omega)), by omega, by omega⟩⟩
  · have hge := of_decide_eq_false hge
    rw [show i = 8 by omega]
end Galois
namespace Galois
open Go Go.Proofs Eng
set_option linter.unusedVariables false
set_option linter.unusedSimpArgs false
set_option maxHeartbeats 4000000
set_option maxRecDepth 100000

theorem bytof_self {f : Nat → Int} {l : List UInt8} {n : Nat} (hn : l.length = n) (h : ∀ k, k < n → f k = ((l.getD k 0).toNat : Int)) : Byt.of f n = l := by
  apply List.ext_getElem (by simp [Byt.of, hn])
  intro k h1 h2
  have hk : k < n := by omega
  simp only [Byt.of, List.getElem_map, List.getElem_range]
  rw [h k hk]
  simp [List.getD, h2]
/-- The generator; a name that no reduction opens. -/
theorem gpoly_ex : ∃ g : List UInt8, g = [24, 200, 173, 239, 54, 81, 11, 255, 1] := ⟨_, rfl⟩
noncomputable def gpoly : List UInt8 := Classical.choose gpoly_ex
theorem gpoly_eq : gpoly = [24, 200, 173, 239, 54, 81, 11, 255, 1] := Classical.choose_spec gpoly_ex
/-- The rest of the data, eight places higher, divided by the generator. -/
noncomputable def parR (d : List UInt8) : List UInt8 := resL ([0, 0, 0, 0, 0, 0, 0, 0] ++ revL d) gpoly
theorem genK_val : genK 8 = [24, 200, 173, 239, 54, 81, 11, 255, 1] := by
  have h : decide (genK 8 = [24, 200, 173, 239, 54, 81, 11, 255, 1]) = true := by kernel_rfl
  exact of_decide_eq_true h
theorem genK_tlen : tlen gpoly = 9 := by rw [gpoly_eq]; rfl
theorem parR_len (d : List UInt8) : (parR d).length ≤ 8 := by
  have h := (quot_facts (p := [0, 0, 0, 0, 0, 0, 0, 0] ++ revL d) (q := gpoly) (by rw [genK_tlen]; decide)).2
  rw [genK_tlen] at h
  unfold parR
  refine Nat.le_trans (Nat.le_of_eq ?_) h
  unfold resL
  rw [if_neg (by rw [genK_tlen]; decide), tlen_trim, trimL_len]
noncomputable def parP (d : List UInt8) : List UInt8 := Byt.of (fun k => (((parR d).getD k 0).toNat : Int)) 8
theorem parP_len (d : List UInt8) : (parP d).length = 8 := by simp [parP, Byt.of]
def encB (d : List UInt8) : Bool := decide (d.length < 1) || decide (223 < d.length)
noncomputable def encL (d : List UInt8) : List UInt8 := if encB d then [] else d ++ revL (parP d)
def encE (d : List UInt8) : Int := if encB d then 2 else 0
theorem encB_eq (d : List UInt8) : (if decide ((d.length : Int) < 1) = true then true else decide ((d.length : Int) > 223)) = encB d := by
  unfold encB
  by_cases h1 : d.length < 1
  · rw [if_pos (decide_eq_true (by omega)), decide_eq_true h1]; rfl
  · rw [if_neg (by rw [decide_eq_true_eq]; omega), decide_eq_false h1, Bool.false_or]
    exact decide_eq_decide.2 (by omega)
theorem encB_len {d : List UInt8} (h : encB d = false) : 1 ≤ d.length ∧ d.length ≤ 223 := by
  unfold encB at h
  simp at h
  refine ⟨?_, by omega⟩
  rcases d with _ | _
  · simp at h
  · exact Nat.succ_le_succ (Nat.zero_le _)
noncomputable def enc := pcOf aStr (fun _ => []) (fun x => .tup [.str (encL x.1), .int .i64 (encE x.1)])
theorem encL_len (d : List UInt8) : (encL d).length ≤ 231 := by
  unfold encL
  split
  · exact Nat.zero_le _
  · rename_i h
    unfold encB at h
    rw [List.length_append, revL_len, parP_len]
    simp at h
    omega
noncomputable def genG := pcOf .nil (fun _ => []) (fun _ => .str gpoly)
theorem gener_eq : gener = genG := by unfold gener genG; rw [genK_val, gpoly_eq]
noncomputable def EBD : Env := ((EBC.addP 114 genG)).addR 166
theorem EBD_ok : EnvOk Tryz.prog EBD := ((EBC_ok.addP (gener_eq ▸ gener_ok))).addR
theorem enc_wf (x : List UInt8 × Unit) : (SV.tup [.str (encL x.1), .int .i64 (encE x.1)]).wf := ⟨Nat.le_trans (encL_len _) (by omega), trivial, trivial⟩
theorem enc_ok : PcOk Tryz.prog 80 enc := by
  refine pcOf_runS (fun _ => EBD_ok) Tryz.func80 rfl (by kernel_rfl) (fun x hw => enc_wf x)
    (fun x => [.draw 4 (.take 0 (.take 1 (.take 2 (.take 3 (.take 4 (.take 5 (.take 6 (.take 7 (.take 8 (.take 9 (.take 10 (.take 11 (.take 12 (.take 13 .fin)))))))))))))) []])
    (fun _ => Nat.le_of_ble_eq_true rfl) (fun ⟨d, ()⟩ hp hw => ?_)
  refine vc_of (q :=
      ∀ (v1:Int), v1=(↑(List.length d):Int)→∀ (v2:Int), v2=(↑(List.length d):Int)→∀ (t1:Bool), (t1=if decide (v1 < (1:Int))=true then true else decide (v2 > (223:Int)))→(t1=true→[]=encL d∧(2:Int)=encE d)∧(t1=false→∀ (b1:Nat), (0:Int)≤(↑(8:Nat):Int)∧(↑(8:Nat):Int)≤(↑(8:Nat):Int)∧8≤8∧(∀ (k1:Nat), k1 < Int.toNat (↑(8:Nat):Int)→true=true)∧(b1=b1∧0=0)∧∀ (s1:List UInt8), s1=Byt.of (fun (k:Nat) ↦ (0:Int))
      (Int.toNat (↑(8:Nat):Int))→List.length d≤1000000∧∀ (s2:List UInt8), s2=revL d→List.length s1+List.length s2≤9223372036854775807∧∀ (s3:List UInt8), s3=s1++s2→∀ (s4:List UInt8), s4=gpoly→List.length s3≤3000∧List.length s4≤3000∧∀ (s5:List UInt8), s5=quoL s3 s4→∀ (s6:List UInt8), s6=resL s3 s4→∀ (v3:Int), (v3=if tlen s4=0 then (2:Int) else
      (0:Int))→(0:Int)≤(↑(8:Nat):Int)∧(↑(8:Nat):Int)≤(↑(8:Nat):Int)∧(b1=b1∧0=0)∧8≤8∧∀ (v4:Int), v4=(↑(Min.min (List.length s6) (Int.toNat (↑(8:Nat):Int))):Int)→(0:Int)≤(↑(8:Nat):Int)∧(↑(8:Nat):Int)≤(↑(8:Nat):Int)∧8≤8∧(∀ (k2:Nat), k2 < Int.toNat (↑(8:Nat):Int)→true=true)∧(b1=b1∧0=0)∧∀ (s7:List UInt8), s7=Byt.of (fun (k:Nat) ↦ if 0≤k∧k < 0+Min.min (List.length s6) (Int.toNat (↑(8:Nat):Int)) then
      (↑(UInt8.toNat (List.getD s6 (k - 0) 0)):Int) else (0:Int)) (Int.toNat (↑(8:Nat):Int))→List.length s7≤1000000∧∀ (s8:List UInt8), s8=revL s7→List.length d+List.length s8≤9223372036854775807∧∀ (s9:List UInt8), s9=d++s8→s9=encL d∧(0:Int)=encE d)) (by kernel_rfl) ?_
  try simp only [eq_self, true_and, and_true, Nat.le_refl, implies_true, forall_const, Bool.false_eq_true, Bool.true_eq_false, reduceCtorEq, false_imp_iff, true_imp_iff, Int.toNat_zero, Int.toNat_natCast, Nat.zero_lt_one, Int.le_refl, allGet]
  intro v1 h1 v2 h2 t1 ht1
  have hb : t1 = encB d := by rw [ht1, h1, h2]; exact encB_eq d
  subst hb
  refine ⟨fun h => by unfold encL encE; rw [if_pos h, if_pos h]; exact ⟨rfl, rfl⟩, fun h => ?_⟩
  have hd := encB_len h
  refine ⟨by omega, fun s1 hs1 => ⟨by omega, fun s2 hs2 => ?_⟩⟩
  have l1 : s1.length = 8 := by rw [hs1]; rfl
  have l2 : s2.length = d.length := by rw [hs2, revL_len]
  refine ⟨by omega, fun s3 hs3 s4 hs4 => ?_⟩
  have l3 : s3.length = 8 + d.length := by rw [hs3, List.length_append]; omega
  have l4 : s4.length = 9 := by rw [hs4, gpoly_eq]; rfl
  refine ⟨by omega, by omega, fun s5 hs5 s6 hs6 v3 hv3 => ⟨by omega, fun v4 hv4 => ⟨by omega, fun s7 hs7 => ?_⟩⟩⟩
  have e6 : s6 = parR d := by rw [hs6, hs3, hs4, hs1, hs2]; rfl
  have l6 : s6.length ≤ 8 := by rw [e6]; exact parR_len d
  have e7 : s7 = parP d := by
    rw [hs7, e6]
    exact bof_congr fun k hk => by
      by_cases q : k < (parR d).length
      · rw [if_pos ⟨Nat.zero_le _, by rw [e6] at l6; omega⟩, Nat.sub_zero]
      · rw [if_neg (by omega)]
        simp only [List.getD]
        rw [List.getElem?_eq_none (by omega)]
        rfl
  have l7 : s7.length = 8 := by rw [e7, parP_len]
  refine ⟨by omega, fun s8 hs8 => ?_⟩
  have l8 : s8.length = 8 := by rw [hs8, revL_len, l7]
  refine ⟨by omega, fun s9 hs9 => ?_⟩
  unfold encL encE
  rw [h, hs9, hs8, e7]
  exact ⟨rfl, rfl⟩
end Galois
