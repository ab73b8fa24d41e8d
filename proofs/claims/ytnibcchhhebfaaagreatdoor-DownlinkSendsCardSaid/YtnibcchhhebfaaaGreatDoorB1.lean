/-
  OWN WORK. Block: contracts without effects, powers, strings backwards.
-/
import Derived.Test.YtnibcchhhebfaaaGreatDoorG7
namespace Galois
open Go Go.Proofs Eng
set_option linter.unusedVariables false
set_option linter.unusedSimpArgs false
set_option maxHeartbeats 4000000
set_option maxRecDepth 100000

/-- A contract that leaves nothing new is one without effects. -/
theorem pc_of_ec {P : Program} {α : Type} {L : ArgL α} {pre : α → List Prop} {res : α → SV} {f : FuncId} (h : EcOk P f (ecC L pre (fun _ (_ : Unit) => True) (fun x _ => res x) (fun _ _ => []) 0))
    (hom : ∀ args H, L.om 0 args H = []) (hres : ∀ x, allT (pre x) → (res x).wf) : PcOk P f (pcOf L pre res) := by
  intro args H ps v hc hw hp hX
  unfold pcOf at hc
  split at hc
  · rename_i qs x hx
    simp only [Option.some.injEq, Prod.mk.injEq] at hc
    obtain ⟨rfl, rfl⟩ := hc
    obtain ⟨p1, p2⟩ := allTrue_append hp
    have p2 := (pOb_true _).1 p2
    obtain ⟨g1, g2⟩ := h args H 0 (fun r H' _ => r.den = (res x).den ∧ H' = H) (by
      unfold ecC
      rw [hx]
      dsimp only
      rw [hom]
      have hB : apartB (L.rt args H) (sndL []) = true := rfl
      rw [hB]
      dsimp only
      rw [allL_iff]
      refine ⟨p1, fun x' hx' => ?_⟩
      subst hx'
      rw [allL_iff]
      refine ⟨(pOb_true _).2 p2, fun y _ => ⟨(rt_eq _ _).1, ?_⟩⟩
      show Hp.app [] (Hp.minus [] H) = H
      have : ∀ H : Hp, Hp.minus [] H = H := fun H => by
        induction H with
        | nil => rfl
        | cons e r ih => show e :: Hp.minus [] r = _; rw [ih]
      rw [this]
      rfl) hw
    refine ⟨hres x p2, g1, fun C w hS => (g2 C w hS).mono ?_⟩
    rintro e w' ⟨r, H', nx', ⟨k1, rfl⟩, k3, rfl, k4⟩
    exact ⟨by rw [k1], k4⟩
  · cases hc
def powP := pcOf aPow (fun x => [isB x.1, -9223372036854775808 ≤ x.2.1 ∧ x.2.1 ≤ 9223372036854775807]) (fun x => .tup [.int .u8 (powI x.1 x.2.1), .int .i64 (errB (x.1 == 0 && decide (x.2.1 < 0)))])
theorem powP_ok : PcOk Tryz.prog 162 powP := pc_of_ec pow_ok (by intro args H; rcases args with _ | ⟨_, _ | ⟨_, _⟩⟩ <;> rfl) (fun _ _ => ⟨trivial, trivial, trivial⟩)
theorem powRP_ok : PcOk Tryz.prog 137 powP := pc_of_ec powR_ok (by intro args H; rcases args with _ | ⟨_, _ | ⟨_, _⟩⟩ <;> rfl) (fun _ _ => ⟨trivial, trivial, trivial⟩)
def divP := pcOf aMul (fun x => [isB x.1, isB x.2.1]) (fun x => .tup [.int .u8 (divI x.1 x.2.1), .int .i64 (errB (x.2.1 == 0))])
theorem divP_ok : PcOk Tryz.prog 139 divP := pc_of_ec div_ok (by intro args H; rcases args with _ | ⟨_, _ | ⟨_, _⟩⟩ <;> rfl) (fun _ _ => ⟨trivial, trivial, trivial⟩)
theorem divRP_ok : PcOk Tryz.prog 108 divP := pc_of_ec divR_ok (by intro args H; rcases args with _ | ⟨_, _ | ⟨_, _⟩⟩ <;> rfl) (fun _ _ => ⟨trivial, trivial, trivial⟩)
theorem trimL_le (l : List UInt8) : (trimL l).length ≤ l.length := by rw [trimL_len]; exact tlen_le l
def productP := pcOf aStrS (fun x => [x.1.length ≤ 3000, x.2.1.length ≤ 3000]) (fun x => .tup [.str (prodL x.1 x.2.1), .int .i64 (if prodB x.1 x.2.1 then 3 else 0)])
theorem prodL_len {p q : List UInt8} (h1 : p.length ≤ 3000) (h2 : q.length ≤ 3000) : (prodL p q).length ≤ 6000 := by
  unfold prodL
  split
  · exact Nat.zero_le _
  · refine Nat.le_trans (trimL_le _) ?_
    rw [ofN_len]
    have := tlen_le p
    have := tlen_le q
    omega
theorem productP_ok : PcOk Tryz.prog 144 productP := pc_of_ec product_ok (by intro args H; rcases args with _ | ⟨_, _ | ⟨_, _⟩⟩ <;> rfl) (fun x h => ⟨Nat.le_trans (prodL_len h.1 h.2.1) (by omega), trivial, trivial⟩)
theorem productRP_ok : PcOk Tryz.prog 110 productP := pc_of_ec productR_ok (by intro args H; rcases args with _ | ⟨_, _ | ⟨_, _⟩⟩ <;> rfl) (fun x h => ⟨Nat.le_trans (prodL_len h.1 h.2.1) (by omega), trivial, trivial⟩)
def quotientP := pcOf aStrS (fun x => [x.1.length ≤ 3000, x.2.1.length ≤ 3000]) (fun x => .tup [.str (quoL x.1 x.2.1), .str (resL x.1 x.2.1), .int .i64 (if tlen x.2.1 = 0 then 2 else 0)])
theorem quoL_len {p q : List UInt8} (h1 : p.length ≤ 3000) : (quoL p q).length ≤ 3000 := by
  unfold quoL
  split
  · exact Nat.zero_le _
  · refine Nat.le_trans (trimL_le _) ?_
    rw [ofN_len]
    have := tlen_le p
    omega
theorem resL_len {p q : List UInt8} (h1 : p.length ≤ 3000) : (resL p q).length ≤ 3000 := by
  unfold resL
  split
  · exact Nat.zero_le _
  · refine Nat.le_trans (trimL_le _) ?_
    rw [ofN_len]
    have := tlen_le p
    omega
theorem quotientP_ok : PcOk Tryz.prog 112 quotientP := pc_of_ec quotient_ok (by intro args H; rcases args with _ | ⟨_, _ | ⟨_, _⟩⟩ <;> rfl) (fun x h => ⟨Nat.le_trans (quoL_len h.1) (by omega), Nat.le_trans (resL_len h.1) (by omega), trivial, trivial⟩)
theorem quotientRP_ok : PcOk Tryz.prog 76 quotientP := pc_of_ec quotientR_ok (by intro args H; rcases args with _ | ⟨_, _ | ⟨_, _⟩⟩ <;> rfl) (fun x h => ⟨Nat.le_trans (quoL_len h.1) (by omega), Nat.le_trans (resL_len h.1) (by omega), trivial, trivial⟩)
def EBA : Env := (((((((EM.addP 162 powP).addP 137 powP).addP 139 divP).addP 108 divP).addP 144 productP).addP 110 productP).addP 112 quotientP).addP 76 quotientP
theorem EBA_ok : EnvOk Tryz.prog EBA := (((((((EM_ok.addP powP_ok).addP powRP_ok).addP divP_ok).addP divRP_ok).addP productP_ok).addP productRP_ok).addP quotientP_ok).addP quotientRP_ok
/-! ### powers of 2 -/
abbrev aInt1 : ArgL (Int × Unit) := .cons (.elt (.int .i64)) .nil
def power := pcOf aInt1 (fun x => [-9223372036854775808 ≤ x.1 ∧ x.1 ≤ 9223372036854775807]) (fun x => .int .u8 (powI 2 x.1))
theorem power_ok : PcOk Tryz.prog 145 power := by
  refine pcOf_run (fun _ => EBA_ok) Tryz.func145 rfl (by kernel_rfl) (fun _ => trivial) (fun _ => []) (fun _ => Nat.le_of_ble_eq_true rfl) (fun ⟨n, ()⟩ hp hw => ?_)
  refine vc_of (q :=
      ((0:Int)≤(2:Int)∧(2:Int)≤(255:Int))∧((-9223372036854775808:Int)≤n∧n≤(9223372036854775807:Int))∧∀ (v1:Int), v1=powI (2:Int) n→∀ (v2:Int), v2=errB ((2:Int)==(0:Int)&&decide (n < (0:Int)))→v1=powI (2:Int) n) (by kernel_rfl) ?_
  try simp only [eq_self, true_and, and_true, Nat.le_refl, implies_true, forall_const, Bool.false_eq_true, Bool.true_eq_false, reduceCtorEq, false_imp_iff, true_imp_iff, Int.toNat_zero, Int.toNat_natCast, Nat.zero_lt_one, Int.le_refl, allGet]
  exact ⟨⟨by decide, by decide⟩, hp.1, fun v1 h1 v2 h2 => h1⟩
theorem powerR_ok : PcOk Tryz.prog 111 power := by
  refine pcOf_run (fun _ => EBA_ok) Tryz.func111 rfl (by kernel_rfl) (fun _ => trivial) (fun _ => []) (fun _ => Nat.le_of_ble_eq_true rfl) (fun ⟨n, ()⟩ hp hw => ?_)
  refine vc_of (q :=
      ((0:Int)≤(2:Int)∧(2:Int)≤(255:Int))∧((-9223372036854775808:Int)≤n∧n≤(9223372036854775807:Int))∧∀ (v1:Int), v1=powI (2:Int) n→∀ (v2:Int), v2=errB ((2:Int)==(0:Int)&&decide (n < (0:Int)))→v1=powI (2:Int) n) (by kernel_rfl) ?_
  try simp only [eq_self, true_and, and_true, Nat.le_refl, implies_true, forall_const, Bool.false_eq_true, Bool.true_eq_false, reduceCtorEq, false_imp_iff, true_imp_iff, Int.toNat_zero, Int.toNat_natCast, Nat.zero_lt_one, Int.le_refl, allGet]
  exact ⟨⟨by decide, by decide⟩, hp.1, fun v1 h1 v2 h2 => h1⟩
/-! ### slices.Reverse -/
abbrev aOwn8 : ArgL (OwnD Int × Unit) := .cons (.orow 5 (.int .u8)) .nil
def revF (f : Nat → Int) (n i k : Nat) : Int := if k < i ∨ (k < n ∧ n ≤ k + i) then f (n - 1 - k) else f k
def reverse := ecU aOwn8 (fun x => [x.1.n ≤ x.1.m, x.1.m ≤ x.1.cap, x.1.n ≤ 1000000]) (fun _ (_ : Unit) => True) (fun x _ => ({ x.1 with f := fun k => if k < x.1.n then x.1.f (x.1.n - 1 - k) else x.1.f k }, ())) (fun _ _ => .tup [])
theorem rev_step {f : Nat → Int} {n i : Nat} (h : 2 * i + 1 < n) (k : Nat) : (if k = n - 1 - i then revF f n i i else if k = i then revF f n i (n - 1 - i) else revF f n i k) = revF f n (i + 1) k := by
  unfold revF
  by_cases h1 : k = n - 1 - i
  · rw [if_pos h1, if_neg (by omega), if_pos (by omega), show n - 1 - k = i by omega]
  · rw [if_neg h1]
    by_cases h2 : k = i
    · rw [if_pos h2, if_neg (by omega), if_pos (by omega), h2]
    · rw [if_neg h2]
      by_cases h3 : k < i ∨ (k < n ∧ n ≤ k + i)
      · rw [if_pos h3, if_pos (by omega)]
      · rw [if_neg h3, if_neg (by omega)]
theorem rev_end {f : Nat → Int} {n i : Nat} (h : n ≤ 2 * i + 1) (h2 : 2 * i ≤ n + 1) (k : Nat) : revF f n i k = if k < n then f (n - 1 - k) else f k := by
  unfold revF
  by_cases h1 : k < n
  · rw [if_pos h1]
    by_cases h3 : k < i ∨ (k < n ∧ n ≤ k + i)
    · rw [if_pos h3]
    · rw [if_neg h3, show n - 1 - k = k by omega]
  · rw [if_neg h1, if_neg (by omega)]
theorem reverse_ok : EcOk Tryz.prog 143 reverse := by
  refine ecC_run (fun _ => E0_ok) Tryz.func143 rfl (by kernel_rfl) []
    (fun x => [.loop ⟨1, Nat, [0, 2, 3], fun y => [.slice 0 x.1.b x.1.off [] 1 0 x.1.n x.1.c x.1.z, .int .i64 (y : Nat), .int .i64 ((x.1.n : Int) - 1 - (y : Nat))], [0], fun y => [⟨0, x.1.b, x.1.off, 1, x.1.m, fun i => .int .u8 (revF x.1.f x.1.n y i), true, false, x.1.cap, 5, x.1.ez, none⟩],
        fun y => 2 * y ≤ x.1.n + 1, fun y => x.1.n - y⟩,
      .draw 3 (.take 0 (.take 1 (.take 2 (.take 3 (.take 4 (.take 5 (.take 6 (.take 8 (.take 9 (.take 10 (.br 7 (.br 11 (.take 12 (.br 13 (.take 14 (.br 15 .fin .stop)) .stop)) .stop) (.br 11 (.br 7 (.take 12 (.br 13 (.take 14 (.br 15 .fin .stop)) .stop)) .stop) .stop)))))))))))) [0]])
    (fun _ => Nat.le_of_ble_eq_true rfl) (fun ⟨⟨b, off, n, c, z, m, cap, ez, f⟩, ()⟩ hp hw => ?_)
  refine vc_of (q :=
      ∀ (v1:Int), v1=(↑n:Int)→∀ (v2:Int), v2=IntKind.i64.wrap (v1 - (1:Int))→(∃ (x1:Nat), (b=b∧off=off∧0=0∧n=n∧c=c∧z=z)∧(0:Int)=(↑x1:Int)∧v2=(↑n:Int) - (1:Int) - (↑x1:Int)∧((b=b∧off=off∧ez=ez∧m≤m∧m≤cap∧cap≤cap)∧∀ (i1:Nat), i1 < m→f i1=revF f n x1 i1)∧Nat.le (2*x1) (n+1))∧∀ (b1:Nat), 2*b1≤n+1→(decide ((↑b1:Int) < (↑n:Int) - (1:Int) - (↑b1:Int))=true→(0:Int)≤(↑n:Int) - (1:Int) - (↑b1:Int)∧(↑n:Int) -
      (1:Int) - (↑b1:Int) < (↑n:Int)∧(0:Int)≤(↑b1:Int)∧(↑b1:Int) < (↑n:Int)∧((b=b∧off=off)∧Int.toNat ((↑n:Int) - (1:Int) - (↑b1:Int)) < m∧((b=b∧off=off)∧Int.toNat (↑b1:Int) < m∧(0:Int)≤(↑b1:Int)∧(↑b1:Int) < (↑n:Int)∧((b=b∧off=off)∧Int.toNat (↑b1:Int) < m∧(0:Int)≤(↑n:Int) - (1:Int) - (↑b1:Int)∧(↑n:Int) - (1:Int) - (↑b1:Int) < (↑n:Int)∧((b=b∧off=off)∧Int.toNat ((↑n:Int) - (1:Int) - (↑b1:Int)) < m∧∀
      (v3:Int), v3=IntKind.i64.wrap ((↑b1:Int)+(1:Int))→∀ (v4:Int), v4=IntKind.i64.wrap ((↑n:Int) - (1:Int) - (↑b1:Int) - (1:Int))→∃ (x2:Nat), (b=b∧off=off∧0=0∧n=n∧c=c∧z=z)∧v3=(↑x2:Int)∧v4=(↑n:Int) - (1:Int) - (↑x2:Int)∧((b=b∧off=off∧ez=ez∧m≤m∧m≤cap∧cap≤cap)∧∀ (i2:Nat), i2 < m→(if i2=Int.toNat ((↑n:Int) - (1:Int) - (↑b1:Int)) then revF f n b1 (Int.toNat (↑b1:Int)) else if i2=Int.toNat (↑b1:Int) then revF
      f n b1 (Int.toNat ((↑n:Int) - (1:Int) - (↑b1:Int))) else revF f n b1 i2)=revF f n x2 i2)∧2*x2≤n+1∧n - x2 < n - b1)∧True)∧True)∧True)∧((b=b∧off=off)∧Int.toNat (↑b1:Int) < m∧((b=b∧off=off)∧Int.toNat ((↑n:Int) - (1:Int) - (↑b1:Int)) < m∧(0:Int)≤(↑b1:Int)∧(↑b1:Int) < (↑n:Int)∧((b=b∧off=off)∧Int.toNat (↑b1:Int) < m∧(0:Int)≤(↑n:Int) - (1:Int) - (↑b1:Int)∧(↑n:Int) - (1:Int) - (↑b1:Int) <
      (↑n:Int)∧((b=b∧off=off)∧Int.toNat ((↑n:Int) - (1:Int) - (↑b1:Int)) < m∧∀ (v4:Int), v4=IntKind.i64.wrap ((↑b1:Int)+(1:Int))→∀ (v5:Int), v5=IntKind.i64.wrap ((↑n:Int) - (1:Int) - (↑b1:Int) - (1:Int))→∃ (x2:Nat), (b=b∧off=off∧0=0∧n=n∧c=c∧z=z)∧v4=(↑x2:Int)∧v5=(↑n:Int) - (1:Int) - (↑x2:Int)∧((b=b∧off=off∧ez=ez∧m≤m∧m≤cap∧cap≤cap)∧∀ (i2:Nat), i2 < m→(if i2=Int.toNat ((↑n:Int) - (1:Int) - (↑b1:Int)) then
      revF f n b1 (Int.toNat (↑b1:Int)) else if i2=Int.toNat (↑b1:Int) then revF f n b1 (Int.toNat ((↑n:Int) - (1:Int) - (↑b1:Int))) else revF f n b1 i2)=revF f n x2 i2)∧2*x2≤n+1∧n - x2 < n - b1)∧True)∧True)∧True)∧True)∧(decide ((↑b1:Int) < (↑n:Int) - (1:Int) - (↑b1:Int))=false→∃ (x2:Unit), True∧((b=b∧off=off∧ez=ez∧m≤m∧m≤cap∧cap≤cap)∧∀ (i2:Nat), i2 < m→revF f n b1 i2=if i2 < n then f (n - 1 - i2) else f
      i2)∧True)) (by kernel_rfl) ?_
  try simp only [eq_self, true_and, and_true, Nat.le_refl, implies_true, forall_const, Bool.false_eq_true, Bool.true_eq_false, reduceCtorEq, false_imp_iff, true_imp_iff, Int.toNat_zero, Int.toNat_natCast, Nat.zero_lt_one, Int.le_refl, allGet]
  obtain ⟨p1, p2, p3, _⟩ := hp
  dsimp only at p1 p2 p3
  intro v1 hv1 v2 hv2
  have e2 : v2 = (n : Int) - 1 := by rw [hv2, hv1, w64_id (by omega) (by omega)]
  refine ⟨⟨0, rfl, by omega, ⟨p2, fun i hi => ?_⟩, Nat.zero_le _⟩, fun i hi => ⟨fun hlt => ?_, fun hge => ⟨(), p2, fun k hk => ?_⟩⟩⟩
  · unfold revF
    rw [if_neg (by omega)]
  · have hlt := of_decide_eq_true hlt
    have et : ((n : Int) - 1 - (i : Nat)).toNat = n - 1 - i := by omega
    have key : ∀ v3 : Int, v3 = IntKind.i64.wrap ((i : Int) + 1) → ∀ v4 : Int, v4 = IntKind.i64.wrap ((n : Int) - 1 - (i : Nat) - 1) → ∃ x2 : Nat, v3 = (x2 : Int) ∧ v4 = (n : Int) - 1 - (x2 : Nat) ∧ (m ≤ cap ∧ ∀ k, k < m → (if k = ((n : Int) - 1 - (i : Nat)).toNat then revF f n i i else if k = i then revF f n i ((n : Int) - 1 - (i : Nat)).toNat else revF f n i k) = revF f n x2 k) ∧ 2 * x2 ≤ n + 1 ∧ n - x2 < n - i := by
      intro v3 h3 v4 h4
      refine ⟨i + 1, h3.trans (l_succ (by omega)), by rw [h4, w64_id (by omega) (by omega)]; omega, ⟨p2, fun k hk => ?_⟩, by omega, by omega⟩
      rw [et]
      exact rev_step (by omega) k
    exact ⟨by omega, by omega, by omega, by omega, ⟨by omega, by omega, by omega, by omega, by omega, by omega, by omega, by omega, key⟩, by omega, by omega, by omega, by omega, by omega, by omega, by omega, by omega, key⟩
  · have hge := of_decide_eq_false hge
    exact rev_end (by omega) hi k
def EBB : Env := ((EBA.addP 145 power).addP 111 power).addE 143 reverse
theorem EBB_ok : EnvOk Tryz.prog EBB := ((EBA_ok.addP power_ok).addP powerR_ok).addE reverse_ok
/-! ### strings backwards -/
theorem bof_congr {f g : Nat → Int} {n : Nat} (h : ∀ k, k < n → f k = g k) : Byt.of f n = Byt.of g n := by
  unfold Byt.of
  exact List.map_congr_left fun k hk => by rw [h k (List.mem_range.1 hk)]
def revL (l : List UInt8) : List UInt8 := Byt.of (fun k => ((l.getD (l.length - 1 - k) 0).toNat : Int)) l.length
theorem revL_len (l : List UInt8) : (revL l).length = l.length := by simp [revL, Byt.of]
def back := pcOf aStr (fun x => [x.1.length ≤ 1000000]) (fun x => .str (revL x.1))
theorem back_ok : PcOk Tryz.prog 113 back := by
  refine pcOf_runS (fun _ => EBB_ok) Tryz.func113 rfl (by kernel_rfl) (fun x hw => by show (revL x.1).length ≤ _; rw [revL_len]; exact hw _ (List.mem_cons_self ..)) (fun x => []) (fun _ => Nat.le_of_ble_eq_true rfl) (fun ⟨l, ()⟩ hp hw => ?_)
  refine vc_of (q :=
      ∀ (b1 b2:Nat), List.length l≤b2→b2≤9223372036854775807→(b1=b1∧0=0)∧(0=0∧∀ (k1:Nat), k1 < List.length l→true=true)∧∀ (x'1:Eng.OwnD Int × Unit), x'1=(Eng.OwnD.mk b1 0 (List.length l) b2 false (List.length l) b2 false fun (k:Nat) ↦ (↑(UInt8.toNat (List.getD l k 0)):Int), ())→Eng.OwnD.n (Prod.fst x'1)≤Eng.OwnD.m (Prod.fst x'1)∧Eng.OwnD.m (Prod.fst x'1)≤Eng.OwnD.cap (Prod.fst x'1)∧Eng.OwnD.n (Prod.fst
      x'1)≤1000000∧∀ (y1:Unit), True→List.length l≤Eng.OwnD.m (Prod.fst x'1)∧(∀ (k2:Nat), k2 < List.length l→true=true)∧(Eng.OwnD.b (Prod.fst x'1)=b1∧Eng.OwnD.off (Prod.fst x'1)=0)∧∀ (s1:List UInt8), s1=Byt.of (fun (k:Nat) ↦ if k < Eng.OwnD.n (Prod.fst x'1) then Eng.OwnD.f (Prod.fst x'1) (Eng.OwnD.n (Prod.fst x'1) - 1 - k) else Eng.OwnD.f (Prod.fst x'1) k) (List.length l)→s1=revL l) (by kernel_rfl) ?_
  try simp only [eq_self, true_and, and_true, Nat.le_refl, implies_true, forall_const, Bool.false_eq_true, Bool.true_eq_false, reduceCtorEq, false_imp_iff, true_imp_iff, Int.toNat_zero, Int.toNat_natCast, Nat.zero_lt_one, Int.le_refl, allGet]
  intro b1 b2 h1 h2 x'1 hx1
  subst hx1
  refine ⟨Nat.le_refl _, h1, hp.1, Nat.le_refl _, ⟨rfl, rfl⟩, fun s1 hs1 => ?_⟩
  rw [hs1]
  exact bof_congr fun k hk => if_pos hk
theorem turned_ok : PcOk Tryz.prog 75 back := by
  refine pcOf_runS (fun _ => EBB_ok) Tryz.func75 rfl (by kernel_rfl) (fun x hw => by show (revL x.1).length ≤ _; rw [revL_len]; exact hw _ (List.mem_cons_self ..))
    (fun x => [.loop ⟨3, Nat × Nat × Nat × Nat, [3, 4], fun y => [.slice 300 y.2.1 y.2.2.1 [] 1 0 y.1 y.2.2.2 (Nat.beq y.1 0), .int .i64 ((x.1.length : Int) - 1 - (y.1 : Nat))], [], fun y => [⟨300, y.2.1, y.2.2.1, 1, y.1, fun k => .int .u8 ((x.1.getD (x.1.length - 1 - k) 0).toNat : Int), true, false, y.2.2.2, 5, Nat.beq y.1 0, none⟩], fun y => y.1 ≤ x.1.length ∧ y.1 ≤ y.2.2.2 ∧ (y.1 = 0 → y.2.2.2 = 0), fun y => x.1.length - y.1⟩])
    (fun _ => Nat.le_of_ble_eq_true rfl) (fun ⟨l, ()⟩ hp hw => ?_)
  refine vc_of (q :=
      ∀ (v1:Int), v1=(↑(List.length l):Int)→∀ (v2:Int), v2=IntKind.i64.wrap (v1 - (1:Int))→(∃ (x1:Nat × Nat × Nat × Nat), SVeq (SV.slice 999999 0 0 [] 0 0 0 0 true) (SV.slice 300 x1.2.1 x1.2.2.1 [] 1 0 x1.1 x1.2.2.2 (Nat.beq x1.1 0))∧v2=(↑(List.length l):Int) - (1:Int) - (↑x1.1:Int)∧(Nat.beq x1.1 0=true∧x1.1=0∧x1.2.2.2=0)∧x1.1≤List.length l∧x1.1≤x1.2.2.2∧(x1.1=0→x1.2.2.2=0))∧∀ (x2:Nat × Nat × Nat × Nat),
      x2.1≤List.length l∧x2.1≤x2.2.2.2∧(x2.1=0→x2.2.2.2=0)→(decide ((↑(List.length l):Int) - (1:Int) - (↑x2.1:Int)≥(0:Int))=true→(0:Int)≤(↑(List.length l):Int) - (1:Int) - (↑x2.1:Int)∧(↑(List.length l):Int) - (1:Int) - (↑x2.1:Int) < (↑(List.length l):Int)∧∀ (b1:Nat), (x2.2.1=x2.2.1∧x2.2.2.1=x2.2.2.1)∧(Nat.beq x2.1 0=true→Nat.beq x2.1
      0=true)∧0=0∧x2.1≤x2.1∧x2.2.2.2≤x2.2.2.2∧(x2.1+1)*1≤140737488355328∧x2.1+1≤9223372036854775807∧1≤1∧(b1=b1∧0=0)∧∀ (b2 b3 b4:Nat), x2.1+1≤b4→b4≤9223372036854775807→(Nat.beq x2.1 0=true→1=0→b4=0)→∀ (v3:Int), v3=IntKind.i64.wrap ((↑(List.length l):Int) - (1:Int) - (↑x2.1:Int) - (1:Int))→∃ (x3:Nat × Nat × Nat × Nat), (b2=x3.2.1∧b3=x3.2.2.1∧0=0∧x2.1+1=x3.1∧b4=x3.2.2.2∧(Nat.beq x2.1 0&&decide
      (1=0))=Nat.beq x3.1 0)∧v3=(↑(List.length l):Int) - (1:Int) - (↑x3.1:Int)∧((b2=x3.2.1∧b3=x3.2.2.1∧(Nat.beq x2.1 0&&decide (1=0))=Nat.beq x3.1 0∧x3.1≤x2.1+1∧x3.1≤x3.2.2.2∧x3.2.2.2≤b4)∧∀ (i1:Nat), i1 < x3.1→(if i1 < x2.1 then (↑(UInt8.toNat (List.getD l (List.length l - 1 - i1) 0)):Int) else (↑(UInt8.toNat (List.getD l (Int.toNat ((↑(List.length l):Int) - (1:Int) - (↑x2.1:Int)))
      0)):Int))=(↑(UInt8.toNat (List.getD l (List.length l - 1 - i1) 0)):Int))∧(x3.1≤List.length l∧x3.1≤x3.2.2.2∧(x3.1=0→x3.2.2.2=0))∧List.length l - x3.1 < List.length l - x2.1)∧(decide ((↑(List.length l):Int) - (1:Int) - (↑x2.1:Int)≥(0:Int))=false→x2.1≤x2.1∧(∀ (k1:Nat), k1 < x2.1→true=true)∧(x2.2.1=x2.2.1∧x2.2.2.1=x2.2.2.1)∧∀ (s1:List UInt8), s1=Byt.of (fun (k:Nat) ↦ (↑(UInt8.toNat (List.getD l
      (List.length l - 1 - k) 0)):Int)) x2.1→s1=revL l)) (by kernel_rfl) ?_
  try simp only [eq_self, true_and, and_true, Nat.le_refl, implies_true, forall_const, Bool.false_eq_true, Bool.true_eq_false, reduceCtorEq, false_imp_iff, true_imp_iff, Int.toNat_zero, Int.toNat_natCast, Nat.zero_lt_one, Int.le_refl, allGet]
  have hl : l.length ≤ 1000000 := hp.1
  intro v1 hv1 v2 hv2
  refine ⟨⟨(0, 0, 0, 0), nil_eqv rfl rfl rfl, by rw [hv2, hv1, w64_id (by omega) (by omega)]; dsimp only; omega, ⟨rfl, rfl, rfl⟩, Nat.zero_le _, Nat.le_refl _, fun _ => rfl⟩, fun x2 hx2 => ⟨fun hlt => ?_, fun hge s1 hs1 => ?_⟩⟩
  · obtain ⟨g1, g2, g3⟩ := hx2
    have hlt := of_decide_eq_true hlt
    refine ⟨by omega, by omega, fun q => q, by omega, by omega, fun c1 c2 c3 hc _ v3 hv3 => ⟨(x2.1 + 1, c1, c2, c3), ⟨rfl, rfl, rfl, rfl, ?_⟩, ?_, ⟨⟨rfl, rfl, ?_, Nat.le_refl _, hc, Nat.le_refl _⟩, fun k hk => ?_⟩, ⟨by dsimp only; omega, hc, fun q => by cases q⟩, by dsimp only; omega⟩⟩
    · rw [decide_eq_false (fun h => h), Bool.and_false]; rfl
    · rw [hv3, w64_id (by omega) (by omega)]; dsimp only; omega
    · rw [decide_eq_false (fun h => h), Bool.and_false]; rfl
    · dsimp only at hk
      by_cases q : k < x2.1
      · rw [if_pos q]
      · rw [if_neg q, show ((l.length : Int) - 1 - (x2.1 : Nat)).toNat = l.length - 1 - k by omega]
  · have hge := of_decide_eq_false hge
    have : x2.1 = l.length := by omega
    rw [hs1, this]
    rfl
/-! ### the generator -/
def genK : Nat → List UInt8
  | 0 => [1]
  | i + 1 => prodL (genK i) [UInt8.ofNat (powI 2 (i : Nat)).toNat, 1]
def gener := pcOf .nil (fun _ => []) (fun _ => .str (genK 8))
theorem genK_small : ∀ i, i < 9 → (genK i).length ≤ 9 := fun i hi => by
  have h : allN (fun i => Nat.ble (genK i).length 9) 9 = true := by kernel_rfl
  exact Nat.le_of_ble_eq_true (allN_true h i hi)
def EBC : Env := (EBB.addP 113 back).addP 75 back
theorem EBC_ok : EnvOk Tryz.prog EBC := (EBB_ok.addP back_ok).addP turned_ok
theorem gener_ok : PcOk Tryz.prog 114 gener := by
  refine pcOf_run (fun _ => EBC_ok) Tryz.func114 rfl (by kernel_rfl) (fun _ => Nat.le_trans (genK_small 8 (by omega)) (by omega))
    (fun x => [.lp 3 Nat [1, 3] (fun i => [.str (genK i), .int .i64 (i : Nat)]) (fun i => i ≤ 8) fun i => 8 - i]) (fun _ => Nat.le_of_ble_eq_true rfl) (fun () hp hw => ?_)
  refine vc_of (q :=
      (∃ (x1:Nat), [(1:UInt8)]=genK x1∧(0:Int)=(↑x1:Int)∧Nat.le x1 8)∧∀ (b1:Nat), b1≤8→(decide ((↑b1:Int) < (8:Int))=true→((-9223372036854775808:Int)≤(↑b1:Int)∧(↑b1:Int)≤(9223372036854775807:Int))∧∀ (v1:Int), v1=powI (2:Int) (↑b1:Int)→∀ (b2:Nat), 2≤2∧(∀ (k1:Nat), k1 < 2→true=true)∧(b2=b2∧0=0)∧∀ (s1:List UInt8), s1=Byt.of (fun (k:Nat) ↦ if k=0 then v1 else (1:Int)) 2→List.length (genK b1)≤3000∧List.length
      s1≤3000∧∀ (s2:List UInt8), s2=prodL (genK b1) s1→∀ (v2:Int), (v2=if prodB (genK b1) s1=true then (3:Int) else (0:Int))→∀ (v3:Int), v3=IntKind.i64.wrap ((↑b1:Int)+(1:Int))→∃ (x2:Nat), s2=genK x2∧v3=(↑x2:Int)∧x2≤8∧8 - x2 < 8 - b1)∧(decide ((↑b1:Int) < (8:Int))=false→genK b1=genK 8)) (by kernel_rfl) ?_
  try simp only [eq_self, true_and, and_true, Nat.le_refl, implies_true, forall_const, Bool.false_eq_true, Bool.true_eq_false, reduceCtorEq, false_imp_iff, true_imp_iff, Int.toNat_zero, Int.toNat_natCast, Nat.zero_lt_one, Int.le_refl, allGet]
  refine ⟨⟨0, rfl, rfl, Nat.zero_le _⟩, fun i hi => ⟨fun hlt => ?_, fun hge => ?_⟩⟩
  · have hlt := of_decide_eq_true hlt
    refine ⟨by omega, fun v1 hv1 s1 hs1 => ?_⟩
    have e1 : s1 = [UInt8.ofNat (powI 2 (i : Nat)).toNat, 1] := by rw [hs1, hv1]; rfl
    refine ⟨Nat.le_trans (genK_small i (by omega)) (by omega), by rw [e1]; show 2 ≤ 3000; omega, fun s2 hs2 v2 _ v3 hv3 => ⟨i + 1, by rw [hs2, e1]; rfl, hv3.trans (l_succ (by omega)), by omega, by omega⟩⟩
  · have hge := of_decide_eq_false hge
    rw [show i = 8 by omega]
theorem generR_ok : PcOk Tryz.prog 77 gener := by
  refine pcOf_run (fun _ => EBC_ok) Tryz.func77 rfl (by kernel_rfl) (fun _ => Nat.le_trans (genK_small 8 (by omega)) (by omega))
    (fun x => [.lp 3 Nat [1, 2] (fun i => [.str (genK i), .int .i64 (i : Nat)]) (fun i => i ≤ 8) fun i => 8 - i]) (fun _ => Nat.le_of_ble_eq_true rfl) (fun () hp hw => ?_)
  refine vc_of (q :=
      (∃ (x1:Nat), [(1:UInt8)]=genK x1∧(0:Int)=(↑x1:Int)∧Nat.le x1 8)∧∀ (b1:Nat), b1≤8→(decide ((↑b1:Int) < (8:Int))=true→((-9223372036854775808:Int)≤(↑b1:Int)∧(↑b1:Int)≤(9223372036854775807:Int))∧∀ (v1:Int), v1=powI (2:Int) (↑b1:Int)→∀ (b2:Nat), 2≤2∧(∀ (k1:Nat), k1 < 2→true=true)∧(b2=b2∧0=0)∧∀ (s1:List UInt8), s1=Byt.of (fun (k:Nat) ↦ if k=0 then v1 else (1:Int)) 2→List.length (genK b1)≤3000∧List.length
      s1≤3000∧∀ (s2:List UInt8), s2=prodL (genK b1) s1→∀ (v2:Int), (v2=if prodB (genK b1) s1=true then (3:Int) else (0:Int))→∀ (v3:Int), v3=IntKind.i64.wrap ((↑b1:Int)+(1:Int))→∃ (x2:Nat), s2=genK x2∧v3=(↑x2:Int)∧x2≤8∧8 - x2 < 8 - b1)∧(decide ((↑b1:Int) < (8:Int))=false→genK b1=genK 8)) (by kernel_rfl) ?_
  try simp only [eq_self, true_and, and_true, Nat.le_refl, implies_true, forall_const, Bool.false_eq_true, Bool.true_eq_false, reduceCtorEq, false_imp_iff, true_imp_iff, Int.toNat_zero, Int.toNat_natCast, Nat.zero_lt_one, Int.le_refl, allGet]
  refine ⟨⟨0, rfl, rfl, Nat.zero_le _⟩, fun i hi => ⟨fun hlt => ?_, fun hge => ?_⟩⟩
  · have hlt := of_decide_eq_true hlt
    refine ⟨by omega, fun v1 hv1 s1 hs1 => ?_⟩
    have e1 : s1 = [UInt8.ofNat (powI 2 (i : Nat)).toNat, 1] := by rw [hs1, hv1]; rfl
    refine ⟨Nat.le_trans (genK_small i (by omega)) (by omega), by rw [e1]; show 2 ≤ 3000; omega, fun s2 hs2 v2 _ v3 hv3 => ⟨i + 1, by rw [hs2, e1]; rfl, hv3.trans (l_succ (by omega)), by omega, by omega⟩⟩
  · have hge := of_decide_eq_false hge
    rw [show i = 8 by omega]
end Galois
