/-
  OWN WORK. Block: the reference's Wrap.
-/
import Derived.Test.YtnibcchhhebfaaaGreatDoorB2
namespace Galois
open Go Go.Proofs Eng
set_option linter.unusedVariables false
set_option linter.unusedSimpArgs false
set_option maxHeartbeats 4000000
set_option maxRecDepth 100000

def partN (n j d : Nat) : Nat := (n - j + d - 1) / d
theorem partN_iff {n j d : Nat} (hd : 1 ≤ d) (k : Nat) : k < partN n j d ↔ j + k * d < n := by
  unfold partN
  rw [← Nat.succ_le_iff, Nat.le_div_iff_mul_le hd, Nat.succ_mul]
  by_cases h : n ≤ j
  · rw [Nat.sub_eq_zero_of_le h]
    constructor <;> intro q <;> omega
  · constructor <;> intro q <;> omega
def partL (l : List UInt8) (j d : Nat) : List UInt8 := Byt.of (fun k => ((l.getD (j + k * d) 0).toNat : Int)) (partN l.length j d)
abbrev aStrII : ArgL (List UInt8 × Int × Int × Unit) := .cons (.elt .str) (.cons (.elt (.int .i64)) (.cons (.elt (.int .i64)) .nil))
def part := pcOf aStrII (fun x => [x.1.length ≤ 1000000, 0 ≤ x.2.1 ∧ x.2.1 ≤ 1000000, 1 ≤ x.2.2.1 ∧ x.2.2.1 ≤ 1000000]) (fun x => .str (partL x.1 x.2.1.toNat x.2.2.1.toNat))
theorem partN_le (n j d : Nat) : partN n j d ≤ n := by
  by_cases h : partN n j d = 0
  · omega
  · by_cases hd : 1 ≤ d
    · have := (partN_iff (n := n) (j := j) hd (partN n j d - 1)).1 (by omega)
      have h2 : (partN n j d - 1) * 1 ≤ (partN n j d - 1) * d := Nat.mul_le_mul_left _ hd
      omega
    · have : d = 0 := by omega
      subst this
      exact absurd (Nat.div_zero _) h
theorem partL_len (l : List UInt8) (j d : Nat) : (partL l j d).length = partN l.length j d := by simp [partL, Byt.of]
theorem part_ok : PcOk Tryz.prog 47 part := by
  refine pcOf_runS (fun _ => EBD_ok) Tryz.func47 rfl (by kernel_rfl) (fun x hw => by show (partL x.1 _ _).length ≤ _; rw [partL_len]; exact Nat.le_trans (partN_le _ _ _) (hw _ (List.mem_cons_self ..)))
    (fun x => [.loop ⟨3, Nat × Nat × Nat × Nat, [7, 8], fun y => [.slice 300 y.2.1 y.2.2.1 [] 1 0 y.1 y.2.2.2 (Nat.beq y.1 0), .int .i64 (x.2.1 + (y.1 * x.2.2.1.toNat : Nat))], [], fun y => [⟨300, y.2.1, y.2.2.1, 1, y.1, fun k => .int .u8 ((x.1.getD (x.2.1.toNat + k * x.2.2.1.toNat) 0).toNat : Int), true, false, y.2.2.2, 5, Nat.beq y.1 0, none⟩], fun y => y.1 ≤ partN x.1.length x.2.1.toNat x.2.2.1.toNat ∧ y.1 ≤ y.2.2.2 ∧ (y.1 = 0 → y.2.2.2 = 0), fun y => partN x.1.length x.2.1.toNat x.2.2.1.toNat - y.1⟩])
    (fun _ => Nat.le_of_ble_eq_true rfl) (fun ⟨l, j, d, ()⟩ hp hw => ?_)
  refine vc_of (q :=
      (∃ (x1:Nat × Nat × Nat × Nat), SVeq (SV.slice 999999 0 0 [] 0 0 0 0 true) (SV.slice 300 x1.2.1 x1.2.2.1 [] 1 0 x1.1 x1.2.2.2 (Nat.beq x1.1 0))∧j=j+(↑(x1.1*Int.toNat d):Int)∧(Nat.beq x1.1 0=true∧x1.1=0∧x1.2.2.2=0)∧x1.1≤partN (List.length l) (Int.toNat j) (Int.toNat d)∧x1.1≤x1.2.2.2∧(x1.1=0→x1.2.2.2=0))∧∀ (x2:Nat × Nat × Nat × Nat), x2.1≤partN (List.length l) (Int.toNat j) (Int.toNat
      d)∧x2.1≤x2.2.2.2∧(x2.1=0→x2.2.2.2=0)→∀ (v1:Int), v1=(↑(List.length l):Int)→(decide (j+(↑(x2.1*Int.toNat d):Int) < v1)=true→(0:Int)≤j+(↑(x2.1*Int.toNat d):Int)∧j+(↑(x2.1*Int.toNat d):Int) < (↑(List.length l):Int)∧∀ (b1:Nat), (x2.2.1=x2.2.1∧x2.2.2.1=x2.2.2.1)∧(Nat.beq x2.1 0=true→Nat.beq x2.1
      0=true)∧0=0∧x2.1≤x2.1∧x2.2.2.2≤x2.2.2.2∧(x2.1+1)*1≤140737488355328∧x2.1+1≤9223372036854775807∧1≤1∧(b1=b1∧0=0)∧∀ (b2 b3 b4:Nat), x2.1+1≤b4→b4≤9223372036854775807→(Nat.beq x2.1 0=true→1=0→b4=0)→∀ (v2:Int), v2=IntKind.i64.wrap (j+(↑(x2.1*Int.toNat d):Int)+d)→∃ (x3:Nat × Nat × Nat × Nat), (b2=x3.2.1∧b3=x3.2.2.1∧0=0∧x2.1+1=x3.1∧b4=x3.2.2.2∧(Nat.beq x2.1 0&&decide (1=0))=Nat.beq x3.1
      0)∧v2=j+(↑(x3.1*Int.toNat d):Int)∧((b2=x3.2.1∧b3=x3.2.2.1∧(Nat.beq x2.1 0&&decide (1=0))=Nat.beq x3.1 0∧x3.1≤x2.1+1∧x3.1≤x3.2.2.2∧x3.2.2.2≤b4)∧∀ (i1:Nat), i1 < x3.1→(if i1 < x2.1 then (↑(UInt8.toNat (List.getD l (Int.toNat j+i1*Int.toNat d) 0)):Int) else (↑(UInt8.toNat (List.getD l (Int.toNat (j+(↑(x2.1*Int.toNat d):Int))) 0)):Int))=(↑(UInt8.toNat (List.getD l (Int.toNat j+i1*Int.toNat d)
      0)):Int))∧(x3.1≤partN (List.length l) (Int.toNat j) (Int.toNat d)∧x3.1≤x3.2.2.2∧(x3.1=0→x3.2.2.2=0))∧partN (List.length l) (Int.toNat j) (Int.toNat d) - x3.1 < partN (List.length l) (Int.toNat j) (Int.toNat d) - x2.1)∧(decide (j+(↑(x2.1*Int.toNat d):Int) < v1)=false→x2.1≤x2.1∧(∀ (k1:Nat), k1 < x2.1→true=true)∧(x2.2.1=x2.2.1∧x2.2.2.1=x2.2.2.1)∧∀ (s1:List UInt8), s1=Byt.of (fun (k:Nat) ↦
      (↑(UInt8.toNat (List.getD l (Int.toNat j+k*Int.toNat d) 0)):Int)) x2.1→s1=partL l (Int.toNat j) (Int.toNat d))) (by kernel_rfl) ?_
  try simp only [eq_self, true_and, and_true, Nat.le_refl, implies_true, forall_const, Bool.false_eq_true, Bool.true_eq_false, reduceCtorEq, false_imp_iff, true_imp_iff, Int.toNat_zero, Int.toNat_natCast, Nat.zero_lt_one, Int.le_refl, allGet]
  obtain ⟨p1, ⟨p2, p3⟩, ⟨p4, p5⟩, _⟩ := hp
  dsimp only at p1 p2 p3 p4 p5
  obtain ⟨J, rfl⟩ := Int.eq_ofNat_of_zero_le p2
  obtain ⟨D, rfl⟩ := Int.eq_ofNat_of_zero_le (show 0 ≤ d by omega)
  simp only [Int.toNat_natCast]
  have hD : 1 ≤ D := by omega
  refine ⟨⟨(0, 0, 0, 0), nil_eqv rfl rfl rfl, by dsimp only; omega, ⟨rfl, rfl, rfl⟩, Nat.zero_le _, Nat.le_refl _, fun _ => rfl⟩, fun x2 hx2 v1 hv1 => ⟨fun hlt => ?_, fun hge s1 hs1 => ?_⟩⟩
  · obtain ⟨g1, g2, g3⟩ := hx2
    have hlt := of_decide_eq_true hlt
    have hk := (partN_iff (n := l.length) (j := J) hD x2.1).2 (by omega)
    have hm : (x2.1 + 1) * D = x2.1 * D + D := Nat.succ_mul ..
    have hN := partN_le l.length J D
    refine ⟨by omega, by omega, fun q => q, by omega, by omega, fun c1 c2 c3 hc _ v2 hv2 => ⟨(x2.1 + 1, c1, c2, c3), ⟨rfl, rfl, rfl, rfl, ?_⟩, ?_, ⟨⟨rfl, rfl, ?_, Nat.le_refl _, hc, Nat.le_refl _⟩, fun k hk => ?_⟩, ⟨by dsimp only; omega, hc, fun q => by cases q⟩, by dsimp only; omega⟩⟩
    · rw [decide_eq_false (fun h => h), Bool.and_false]; rfl
    · rw [hv2, w64_id (by omega) (by omega)]; dsimp only; omega
    · rw [decide_eq_false (fun h => h), Bool.and_false]; rfl
    · dsimp only at hk
      by_cases q : k < x2.1
      · rw [if_pos q]
      · rw [if_neg q, show ((J : Int) + ((x2.1 * D : Nat) : Int)).toNat = J + x2.1 * D by omega, show k = x2.1 by omega]
  · have hge := of_decide_eq_false hge
    have : x2.1 = partN l.length J D := by
      have := hx2.1
      by_cases q : x2.1 < partN l.length J D
      · have := (partN_iff (n := l.length) (j := J) hD x2.1).1 q
        omega
      · omega
    rw [hs1, this]
    rfl
end Galois
namespace Galois
open Go Go.Proofs Eng
set_option linter.unusedVariables false
set_option linter.unusedSimpArgs false
set_option maxHeartbeats 4000000
set_option maxRecDepth 100000

/-- Wrap's arguments are refused. -/
def wB (d : List UInt8) (n : Int) : Bool := decide (n < 1) || decide (4 < n) || decide ((d.length : Int) < n) || decide (223 * n < (d.length : Int))
/-- The parity bytes of part j. -/
noncomputable def parJ (d : List UInt8) (n j : Nat) : List UInt8 := revL (parP (partL d j n))
noncomputable def wF (d : List UInt8) (n i : Nat) : Int := ((parJ d n (i % n)).getD (i / n) 0).toNat
noncomputable def wrapL (d : List UInt8) (n : Int) : List UInt8 := if wB d n then [] else d ++ Byt.of (wF d n.toNat) (8 * n.toNat)
noncomputable def wrapE (d : List UInt8) (n : Int) : Int := if wB d n then 2 else 0
noncomputable def wrap := pcOf aStrI (fun _ => []) (fun x => .tup [.str (wrapL x.1 x.2.1), .int .i64 (wrapE x.1 x.2.1)])
theorem wB_false {d : List UInt8} {n : Int} (h : wB d n = false) : 1 ≤ n ∧ n ≤ 4 ∧ n ≤ d.length ∧ d.length ≤ 223 * n := by
  unfold wB at h
  simp only [Bool.or_eq_false_iff, decide_eq_false_iff_not] at h
  omega
theorem wrapL_len (d : List UInt8) (n : Int) : (wrapL d n).length ≤ 1000 := by
  unfold wrapL
  cases h : wB d n with
  | true => exact Nat.zero_le _
  | false =>
    have := wB_false h
    show (d ++ Byt.of _ _).length ≤ 1000
    rw [List.length_append]
    simp only [Byt.of, List.length_map, List.length_range]
    omega
theorem wrap_wf (x : List UInt8 × Int × Unit) : (SV.tup [.str (wrapL x.1 x.2.1), .int .i64 (wrapE x.1 x.2.1)]).wf := ⟨Nat.le_trans (wrapL_len _ _) (by omega), trivial, trivial⟩
noncomputable def EBE : Env := ((EBD.addP 80 enc).addP 46 enc).addP 47 part
theorem EBE_ok : EnvOk Tryz.prog EBE := ((EBD_ok.addP enc_ok).addP encR_ok).addP part_ok
theorem wB_eq {d : List UInt8} {n v1 v2 v3 : Int} {t1 t2 t3 : Bool} (ht1 : t1 = if decide (n < 1) = true then true else decide (n > 4)) (h1 : v1 = d.length) (ht2 : t2 = if t1 = true then true else decide (v1 < n)) (h2 : v2 = d.length)
    (h3 : v3 = IntKind.i64.wrap (223 * n)) (ht3 : t3 = if t2 = true then true else decide (v2 > v3)) : t3 = wB d n := by
  unfold wB
  cases a : decide (n < 1) with
  | true => rw [a, if_pos rfl] at ht1; rw [ht1, if_pos rfl] at ht2; rw [ht2, if_pos rfl] at ht3; rw [ht3]; rfl
  | false =>
    rw [a, if_neg (by decide)] at ht1
    have ht1 : t1 = decide (4 < n) := ht1
    cases b : decide (4 < n) with
    | true => rw [b] at ht1; rw [ht1, if_pos rfl] at ht2; rw [ht2, if_pos rfl] at ht3; rw [ht3]; rfl
    | false =>
      have a' := of_decide_eq_false a
      have b' := of_decide_eq_false b
      rw [w64_id (by omega) (by omega)] at h3
      rw [b] at ht1; rw [ht1, if_neg (by decide), h1] at ht2
      cases c : decide ((d.length : Int) < n) with
      | true => rw [c] at ht2; rw [ht2, if_pos rfl] at ht3; rw [ht3]; rfl
      | false => rw [c] at ht2; rw [ht2, if_neg (by decide), h2, h3] at ht3; rw [ht3]; rfl
theorem partN_ok {d : List UInt8} {n : Int} (h : wB d n = false) {k : Nat} (hk : (k : Int) < n) : 1 ≤ (partL d k n.toNat).length ∧ (partL d k n.toNat).length ≤ 223 := by
  obtain ⟨h1, h2, h3, h4⟩ := wB_false h
  rw [partL_len]
  refine ⟨(partN_iff (by omega) 0).2 (by omega), ?_⟩
  apply Nat.le_of_not_lt
  intro q
  have := (partN_iff (n := d.length) (j := k) (d := n.toNat) (by omega) 223).1 q
  omega
theorem encB_of {d : List UInt8} (h1 : 1 ≤ d.length) (h2 : d.length ≤ 223) : encB d = false := by
  unfold encB
  rw [decide_eq_false (by omega), decide_eq_false (by omega)]
  rfl
theorem encL_of {d : List UInt8} (h1 : 1 ≤ d.length) (h2 : d.length ≤ 223) : encL d = d ++ revL (parP d) := by
  unfold encL
  rw [encB_of h1 h2]
  rfl
theorem parJ_len (d : List UInt8) (n j : Nat) : (parJ d n j).length = 8 := by unfold parJ; rw [revL_len, parP_len]
theorem bof_succ (f : Nat → Int) (n : Nat) : Byt.of f (n + 1) = Byt.of f n ++ [UInt8.ofNat (f n).toNat] := by simp [Byt.of, List.range_succ]
theorem drop_take_one {l : List UInt8} {b : Nat} (h : b < l.length) : List.drop b (List.take (b + 1) l) = [l.getD b 0] := by
  rw [List.drop_take, show b + 1 - b = 1 by omega, List.drop_eq_getElem_cons h, List.take_succ_cons, List.take_zero]
  simp only [List.getD]
  rw [List.getElem?_eq_getElem h]
  rfl
theorem wF_at (d : List UInt8) {n p j : Nat} (hj : j < n) : wF d n (p * n + j) = (((parJ d n j).getD p 0).toNat : Int) := by
  unfold wF
  have hn : 0 < n := by omega
  rw [Nat.add_comm, Nat.add_mul_mod_self_right, Nat.mod_eq_of_lt hj, Nat.add_mul_div_right _ _ hn, Nat.div_eq_of_lt hj, Nat.zero_add]
theorem wrapR_ok : PcOk Tryz.prog 24 wrap := by
  refine pcOf_runS (fun _ => EBE_ok) Tryz.func24 rfl (by kernel_rfl) (fun x hw => wrap_wf x)
    (fun x => [.loop ⟨5, Nat × Nat × Nat × Nat, [6, 7], fun y => [.slice 300 y.2.1 y.2.2.1 [] 1 0 y.1 y.2.2.2 (Nat.beq y.1 0), .int .i64 (y.1 : Nat)], [], fun y => [⟨300, y.2.1, y.2.2.1, 1, y.1, fun k => .str (parJ x.1 x.2.1.toNat k), true, false, y.2.2.2, 9, Nat.beq y.1 0, none⟩], fun y => y.1 ≤ x.2.1.toNat ∧ y.1 ≤ y.2.2.2 ∧ (y.1 = 0 → y.2.2.2 = 0), fun y => x.2.1.toNat - y.1⟩,
      .lp 11 Nat [10, 11] (fun p => [.str (x.1 ++ Byt.of (wF x.1 x.2.1.toNat) (p * x.2.1.toNat)), .int .i64 (p : Nat)]) (fun p => p ≤ 8) (fun p => 8 - p),
      .loopD 14 (fun fr H => ⟨14, Nat, [10, 12], fun j => [.str (x.1 ++ Byt.of (wF x.1 x.2.1.toNat) ((intOf (slotV fr 11)).toNat * x.2.1.toNat + j)), .int .i64 (j : Nat)], [], fun _ => [], fun j => j ≤ x.2.1.toNat, fun j => x.2.1.toNat - j⟩)])
    (fun _ => Nat.le_of_ble_eq_true rfl) (fun ⟨d, n, ()⟩ hp hw => ?_)
  refine vc_of (q :=
      ∀ (t1:Bool), (t1=if decide (n < (1:Int))=true then true else decide (n > (4:Int)))→∀ (v1:Int), v1=(↑(List.length d):Int)→∀ (t2:Bool), (t2=if t1=true then true else decide (v1 < n))→∀ (v2:Int), v2=(↑(List.length d):Int)→∀ (v3:Int), v3=IntKind.i64.wrap ((223:Int)*n)→∀ (t3:Bool), (t3=if t2=true then true else decide (v2 > v3))→(t3=true→[]=wrapL d n∧(2:Int)=wrapE d n)∧(t3=false→(∃ (x1:Nat × Nat × Nat ×
      Nat), SVeq (SV.slice 999999 0 0 [] 0 0 0 0 true) (SV.slice 300 x1.2.1 x1.2.2.1 [] 1 0 x1.1 x1.2.2.2 (Nat.beq x1.1 0))∧(0:Int)=(↑x1.1:Int)∧(Nat.beq x1.1 0=true∧x1.1=0∧x1.2.2.2=0)∧x1.1≤Int.toNat n∧x1.1≤x1.2.2.2∧(x1.1=0→x1.2.2.2=0))∧∀ (x2:Nat × Nat × Nat × Nat), x2.1≤Int.toNat n∧x2.1≤x2.2.2.2∧(x2.1=0→x2.2.2.2=0)→(decide ((↑x2.1:Int) < n)=true→List.length
      d≤1000000∧((0:Int)≤(↑x2.1:Int)∧(↑x2.1:Int)≤(1000000:Int))∧((1:Int)≤n∧n≤(1000000:Int))∧∀ (s1:List UInt8), s1=partL d (Int.toNat (↑x2.1:Int)) (Int.toNat n)→∀ (s2:List UInt8), s2=encL s1→∀ (v4:Int), v4=encE s1→∀ (v5:Int), v5=(↑(List.length s2):Int)→∀ (v6:Int), v6=IntKind.i64.wrap (v5 - (8:Int))→(0:Int)≤(↑(List.length s2):Int)∧(↑(List.length s2):Int)≤(↑(List.length s2):Int)∧0≤v6∧v6≤(↑(List.length
      s2):Int)∧∀ (b1:Nat), (x2.2.1=x2.2.1∧x2.2.2.1=x2.2.2.1)∧(Nat.beq x2.1 0=true→Nat.beq x2.1 0=true)∧0=0∧x2.1≤x2.1∧x2.2.2.2≤x2.2.2.2∧(x2.1+1)*16≤140737488355328∧x2.1+1≤9223372036854775807∧1≤1∧(b1=b1∧0=0)∧∀ (b2 b3 b4:Nat), x2.1+1≤b4→b4≤9223372036854775807→(Nat.beq x2.1 0=true→1=0→b4=0)→∀ (v7:Int), v7=IntKind.i64.wrap ((↑x2.1:Int)+(1:Int))→∃ (x3:Nat × Nat × Nat × Nat),
      (b2=x3.2.1∧b3=x3.2.2.1∧0=0∧x2.1+1=x3.1∧b4=x3.2.2.2∧(Nat.beq x2.1 0&&decide (1=0))=Nat.beq x3.1 0)∧v7=(↑x3.1:Int)∧((b2=x3.2.1∧b3=x3.2.2.1∧(Nat.beq x2.1 0&&decide (1=0))=Nat.beq x3.1 0∧x3.1≤x2.1+1∧x3.1≤x3.2.2.2∧x3.2.2.2≤b4)∧∀ (i1:Nat), i1 < x3.1→(if i1 < x2.1 then parJ d (Int.toNat n) i1 else List.drop (Int.toNat v6) (List.take (Int.toNat (↑(List.length s2):Int)) s2))=parJ d (Int.toNat n)
      i1)∧(x3.1≤Int.toNat n∧x3.1≤x3.2.2.2∧(x3.1=0→x3.2.2.2=0))∧Int.toNat n - x3.1 < Int.toNat n - x2.1)∧(decide ((↑x2.1:Int) < n)=false→(∃ (x3:Nat), d=d++Byt.of (wF d (Int.toNat n)) (x3*Int.toNat n)∧(0:Int)=(↑x3:Int)∧Nat.le x3 8)∧∀ (b1:Nat), b1≤8→(decide ((↑b1:Int) < (8:Int))=true→(∃ (x4:Nat), d++Byt.of (wF d (Int.toNat n)) (b1*Int.toNat n)=d++Byt.of (wF d (Int.toNat n)) (Int.toNat (↑b1:Int)*Int.toNat
      n+x4)∧(0:Int)=(↑x4:Int)∧Nat.le x4 (Int.toNat n))∧∀ (b2:Nat), b2≤Int.toNat n→(decide ((↑b2:Int) < n)=true→(0:Int)≤(↑b2:Int)∧(↑b2:Int) < (↑x2.1:Int)∧(x2.2.1=x2.2.1∧x2.2.2.1=x2.2.2.1)∧Int.toNat (↑b2:Int) < x2.1∧∀ (v4:Int), v4=IntKind.i64.wrap ((↑b1:Int)+(1:Int))→0≤v4∧v4≤(↑(List.length (parJ d (Int.toNat n) (Int.toNat (↑b2:Int)))):Int)∧(0:Int)≤(↑b1:Int)∧(↑b1:Int)≤v4∧List.length (d++Byt.of (wF d
      (Int.toNat n)) (Int.toNat (↑b1:Int)*Int.toNat n+b2))+List.length (List.drop (Int.toNat (↑b1:Int)) (List.take (Int.toNat v4) (parJ d (Int.toNat n) (Int.toNat (↑b2:Int)))))≤9223372036854775807∧∀ (s2:List UInt8), s2=d++Byt.of (wF d (Int.toNat n)) (Int.toNat (↑b1:Int)*Int.toNat n+b2)++List.drop (Int.toNat (↑b1:Int)) (List.take (Int.toNat v4) (parJ d (Int.toNat n) (Int.toNat (↑b2:Int))))→∀ (v5:Int),
      v5=IntKind.i64.wrap ((↑b2:Int)+(1:Int))→∃ (x5:Nat), s2=d++Byt.of (wF d (Int.toNat n)) (Int.toNat (↑b1:Int)*Int.toNat n+x5)∧v5=(↑x5:Int)∧x5≤Int.toNat n∧Int.toNat n - x5 < Int.toNat n - b2)∧(decide ((↑b2:Int) < n)=false→∀ (v5:Int), v5=IntKind.i64.wrap ((↑b1:Int)+(1:Int))→∃ (x5:Nat), d++Byt.of (wF d (Int.toNat n)) (Int.toNat (↑b1:Int)*Int.toNat n+b2)=d++Byt.of (wF d (Int.toNat n)) (x5*Int.toNat
      n)∧v5=(↑x5:Int)∧x5≤8∧8 - x5 < 8 - b1))∧(decide ((↑b1:Int) < (8:Int))=false→d++Byt.of (wF d (Int.toNat n)) (b1*Int.toNat n)=wrapL d n∧(0:Int)=wrapE d n)))) (by kernel_rfl) ?_
  try simp only [eq_self, true_and, and_true, Nat.le_refl, implies_true, forall_const, Bool.false_eq_true, Bool.true_eq_false, reduceCtorEq, false_imp_iff, true_imp_iff, Int.toNat_zero, Int.toNat_natCast, Nat.zero_lt_one, Int.le_refl, allGet]
  intro t1 ht1 v1 h1 t2 ht2 v2 h2 v3 h3 t3 ht3
  have hb := wB_eq ht1 h1 ht2 h2 h3 ht3
  subst hb
  refine ⟨fun h => by unfold wrapL wrapE; rw [if_pos h, if_pos h]; exact ⟨rfl, rfl⟩, fun h => ?_⟩
  obtain ⟨g1, g2, g3, g4⟩ := wB_false h
  have hN : ((n.toNat : Nat) : Int) = n := Int.toNat_of_nonneg (by omega)
  refine ⟨⟨(0, 0, 0, 0), nil_eqv rfl rfl rfl, rfl, ⟨rfl, rfl, rfl⟩, Nat.zero_le _, Nat.le_refl _, fun _ => rfl⟩, fun x2 hx2 => ⟨fun hlt => ?_, fun hge => ?_⟩⟩
  · obtain ⟨i1, i2, i3⟩ := hx2
    have hlt := of_decide_eq_true hlt
    refine ⟨by omega, by omega, by omega, fun s1 hs1 s2 hs2 v4 hv4 v5 hv5 v6 hv6 => ?_⟩
    obtain ⟨q1, q2⟩ := partN_ok h hlt
    rw [← hs1] at q1 q2
    rw [encL_of q1 q2] at hs2
    have l2 : s2.length = s1.length + 8 := by rw [hs2, List.length_append, revL_len, parP_len]
    have e6 : v6 = (s1.length : Nat) := by rw [hv6, hv5, l2, w64_id (by omega) (by omega)]; omega
    refine ⟨by omega, by omega, by omega, fun q => q, by omega, by omega, fun c1 c2 c3 hc _ v7 hv7 => ⟨(x2.1 + 1, c1, c2, c3), ⟨rfl, rfl, rfl, rfl, ?_⟩, ?_, ⟨⟨rfl, rfl, ?_, Nat.le_refl _, hc, Nat.le_refl _⟩, fun k hk => ?_⟩, ⟨by dsimp only; omega, hc, fun q => by cases q⟩, by dsimp only; omega⟩⟩
    · rw [decide_eq_false (fun h => h), Bool.and_false]; rfl
    · rw [hv7, w64_id (by omega) (by omega)]; dsimp only; omega
    · rw [decide_eq_false (fun h => h), Bool.and_false]; rfl
    · dsimp only at hk
      by_cases q : k < x2.1
      · rw [if_pos q]
      · rw [if_neg q, show k = x2.1 by omega, e6]
        unfold parJ
        rw [← hs1, hs2]
        simp only [SV.str.injEq, List.length_append, Int.toNat_natCast]
        try rw [List.take_of_length_le (by rw [List.length_append]; exact Nat.le_refl _), List.drop_left]
  · have hge := of_decide_eq_false hge
    have ex : x2.1 = n.toNat := by omega
    refine ⟨⟨0, by simp [Byt.of], rfl, Nat.zero_le _⟩, fun p hp8 => ⟨fun hp => ⟨⟨0, rfl, rfl, Nat.zero_le _⟩, fun j hj => ⟨fun hjn => ?_, fun hjn v5 hv5 => ?_⟩⟩, fun hp => ?_⟩⟩
    · have hp := of_decide_eq_true hp
      have hjn := of_decide_eq_true hjn
      have lJ := parJ_len d n.toNat j
      refine ⟨by omega, by omega, by omega, fun v4 hv4 => ?_⟩
      have e4 : v4 = ((p + 1 : Nat) : Int) := by rw [hv4, w64_id (by omega) (by omega)]; omega
      have et : v4.toNat = p + 1 := by omega
      have e1 := drop_take_one (l := parJ d n.toNat j) (b := p) (by omega)
      rw [et, e1]
      have lB : (Byt.of (wF d n.toNat) (p * n.toNat + j)).length = p * n.toNat + j := by simp [Byt.of]
      have lm : p * n.toNat ≤ 8 * n.toNat := Nat.mul_le_mul_right _ hp8
      have l0 : ([(parJ d n.toNat j).getD p 0] : List UInt8).length = 1 := rfl
      refine ⟨by omega, by omega, by omega, by omega, by rw [List.length_append]; omega, fun s2 hs2 v5 hv5 => ⟨j + 1, ?_, by rw [hv5, w64_id (by omega) (by omega)]; omega, by omega, by omega⟩⟩
      rw [hs2, List.append_assoc, show p * n.toNat + (j + 1) = p * n.toNat + j + 1 by omega, bof_succ, wF_at d (by omega)]
      simp
    · have hp := of_decide_eq_true hp
      have hjn := of_decide_eq_false hjn
      refine ⟨p + 1, ?_, by rw [hv5, w64_id (by omega) (by omega)]; omega, by omega, by omega⟩
      rw [show j = n.toNat by omega, Nat.succ_mul]
    · have hp := of_decide_eq_false hp
      unfold wrapL wrapE
      rw [h, show p = 8 by omega]
      exact ⟨rfl, rfl⟩
end Galois
