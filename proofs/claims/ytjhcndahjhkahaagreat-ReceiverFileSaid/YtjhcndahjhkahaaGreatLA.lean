/-
  OWN WORK. Receiver: Gaps.
-/
import Derived.Test.YtjhcndahjhkahaaGreatLO
namespace Rc
open Go Go.Proofs Eng
set_option linter.unusedVariables false
set_option linter.unusedSimpArgs false
set_option maxRecDepth 100000
set_option maxHeartbeats 4000000
def EGP : Env := (((((((E0.addQ 24 eqPt).addQ 76 eqPt).addE 34 gapC2)).inl 28 Tryz.f28 fun _ _ => [.raw 0, .raw 1, .det 0, .det 1, .sure 0, .sure 1]).inl 52 Tryz.f52 fun _ _ => [.raw 0, .raw 1, .det 0, .det 1, .sure 0, .sure 1]).inl 51 Tryz.f51 fun _ _ => [.unroll 2 3] ++ [.raw 0, .raw 1, .raw 2, .raw 3, .raw 4, .raw 5, .raw 6, .raw 7, .det 0, .det 1, .det 2, .det 3, .det 4, .det 5, .det 6, .det 7, .sure 0, .sure 1, .sure 2, .sure 3, .sure 4, .sure 5, .sure 6, .sure 7]).inl 30 Tryz.f30 fun _ _ => [.raw 0, .raw 1, .raw 2, .raw 3, .raw 4, .det 0, .det 1, .det 2, .det 3, .det 4, .sure 0, .sure 1, .sure 2, .sure 3, .sure 4]
theorem EGP_ok : EnvOk Tryz.prog EGP := (((((((E0_ok.addQ (eqPt_ok (by kernel_rfl))).addQ (eqPt_ok (by kernel_rfl))).addE gapT_ok)).inl _ Tryz.func28 rfl (by kernel_rfl)).inl _ Tryz.func52 rfl (by kernel_rfl)).inl _ Tryz.func51 rfl (by kernel_rfl)).inl _ Tryz.func30 rfl (by kernel_rfl)
structure GX where
  bR : Nat
  ts : TS
  name : List UInt8
  file : List UInt8
  hf : Nat → Bool
  me : Bool
  en : Bool
  dn : Bool
abbrev gpE (y : GlX) : Ent := ⟨520, y.2.1, y.2.2.1, 2, y.1.length, gapE y.1, true, false, y.2.2.2, 46, decide (y.1.length = 0), none⟩
def gpA : LA := ⟨0, GX, [0, 1], fun x => [.ptr 1 x.bR 0 [.elt 0 5], .int .i64 3], [1, 501, 502, 503, 504, 208017], fun x => [rcE x.bR x.ts, oE x.ts, trE x.ts, txE x.ts.tx, mpE x.ts],
  fun x => FOk x.name x.file x.hf x.me x.en x.dn x.ts ∧ x.file.length ≤ 3000, fun _ => 0⟩
def gpOk (file : List UInt8) (hf : Nat → Bool) (en dn : Bool) (l : List (Int × Int)) : Prop :=
  (∀ g ∈ l, 0 ≤ g.1 ∧ g.1 < g.2 ∧ g.2 ≤ file.length ∧ ∀ k : Nat, g.1 ≤ k → (k : Int) < g.2 → hf k = false) ∧ (en = true → dn = false → gapSum l = (unc hf file.length : Nat)) ∧ l.length ≤ 65537
def gpP (x : GX) (y : GlX) : Prop := (y.1.length ≤ y.2.2.2 ∧ y.2.2.2 ≤ 9223372036854775807 ∧ (y.1.length = 0 → y.2.2.2 = 0)) ∧ gpOk x.file x.hf x.en x.dn y.1
def gpB (x : GX) (y : GlX) : SV × Hp := (.slice 520 y.2.1 y.2.2.1 [] 2 0 y.1.length y.2.2.2 (decide (y.1.length = 0)), [gpE y, rcE x.bR x.ts, oE x.ts, trE x.ts, txE x.ts.tx, mpE x.ts])
def gpC := bxC gpA (fun _ => GlX) gpB gpP
theorem FPre.gap {name file : List UInt8} {hf : Nat → Bool} {me en : Bool} {x : TS} (h : FPre name file hf me en x) (h3 : file.length ≤ 3000) {l : List Int} (r1 : Rising l) (r2 : ∀ z, x.h z = true ↔ z ∈ l) (N : Int) (hN : N = if x.ten = true then x.la else x.tx.2.2.1) : gpOk file hf en false (gapsR N x.ge 0 l) := by
  obtain ⟨hR, hl⟩ := h.runs
  have hn : ∃ n : Nat, N = n ∧ n ≤ file.length ∧ x.tx.2.2.1 ≤ n ∧ (en = true → n = file.length) := by
    rw [h.ed.1] at hN
    cases en with
    | true => exact ⟨file.length, by rw [hN, if_pos rfl, (h.ed.2.1 rfl).1], Nat.le_refl _, hl, fun _ => rfl⟩
    | false => exact ⟨x.tx.2.2.1, by rw [hN, if_neg (by decide)], hl, Nat.le_refl _, fun q => by cases q⟩
  obtain ⟨n, rfl, n1, n2, n3⟩ := hn
  have hR' : Runs n x.h x.ge := ⟨fun z hz => by have := hR.1 z hz; omega, hR.2⟩
  obtain ⟨m1, m2⟩ := gaps_main (f := hf) hR' (fun k hk => h.cov k (by omega)) l 0 r1 (Nat.zero_le _) (fun z hz => (r2 z).2 hz) (fun z hz => (hR'.1 z ((r2 z).2 hz)).1) (fun z hz hn => absurd ((r2 z).1 hz) hn)
  refine ⟨fun g hg => ?_, fun he _ => ?_, ?_⟩
  · obtain ⟨q1, q2, q3, q4⟩ := m1 g hg
    exact ⟨by omega, q2, by omega, q4⟩
  · have e := n3 he
    subst e
    have m2 : (unc hf file.length : Int) = ((0 : Nat) : Int) + gapSum (gapsR file.length x.ge 0 l) := m2
    rw [m2]
    exact (Int.zero_add _).symm
  · have := gaps_len (n : Int) x.ge l 0
    have := nodup_len 65536 l (r1.imp fun q => by omega) (fun k hk => by have := hR'.1 k ((r2 k).2 hk); omega)
    omega
theorem gaps_ok : EcOk Tryz.prog 11 gpC := by
  refine bx_run (A := gpA) (fun _ => EGP_ok) Tryz.func11 rfl (by kernel_rfl) 2 rfl (fun _ => rfl) (Nat.le_of_ble_eq_true rfl) (fun _ => [.raw 0, .raw 1, .raw 2, .raw 3, .raw 4, .raw 5, .raw 6, .det 0, .det 1, .det 2, .det 3, .det 4, .det 6, .sure 0, .sure 1, .sure 2, .sure 3, .sure 4, .sure 5, .sure 6]) 10 (fun ⟨bR, ⟨bT, bO, oO, cO, ph, tme, ten, nm, sz, la, sm, ⟨bx, ox, tl, cx, tx⟩, bm, h, ge, tr, wy, cl, du⟩, name, file, hf, me, en, dn⟩ hi hw => ?_)
  refine vc_of (q :=
      (false=false→bR=bR∧0=0)∧(bR=bR∧0=0)∧∀ (b1:Nat), (0:Int)≤0∧0 < (↑(1:Nat):Int)∧(bO=bO∧oO=oO)∧0 < 1∧(bT=bT∧0=0)∧(b1=b1∧0=0)∧(0:Int)≤0∧0 < (↑(1:Nat):Int)∧(bO=bO∧oO=oO)∧0 < 1∧(false=false→bT=bT∧0=0)∧((if false=true then true else ph==(3:Int))=true→∃ (x1:List (Int × Int) × Nat × Nat × Nat), SVeq (SV.slice 999999 0 0 [] 0 0 0 0 true) (SV.slice 520 x1.2.1 x1.2.2.1 [] 2 0 (List.length x1.1) x1.2.2.2 (decide
      (List.length x1.1=0)))∧(decide (List.length x1.1=0)=true∧List.length x1.1=0∧x1.2.2.2=0)∧((bR=bR∧0=0∧false=false∧1≤1∧1≤1∧1≤1)∧(10:Int)=10∧(3:Int)=3∧false=false∧(bO=bO∧oO=oO∧0=0∧1=1∧cO=cO∧false=false)∧0=0∧0=0∧0=0∧0=0∧0=0∧true=true)∧((bO=bO∧oO=oO∧false=false∧1≤1∧1≤cO∧cO≤cO)∧∀ (i1:Nat), i1 <
      1→0=0∧bT=bT∧0=0)∧((bT=bT∧0=0∧false=false∧1≤1∧1≤1∧1≤1)∧(3:Int)=3∧ph=ph∧tme=tme∧ten=ten∧nm=nm∧sz=sz∧la=la∧sm=sm∧(bx=bx∧ox=ox∧0=0∧tl=tl∧cx=cx∧decide (tl=0)=decide (tl=0))∧bm=bm∧tr=tr∧(0:Int)=0∧wy=wy∧cl=cl∧du=du)∧((bx=bx∧ox=ox∧decide (tl=0)=decide (tl=0)∧tl≤tl∧tl≤cx∧cx≤cx)∧∀ (i2:Nat), i2 < tl→tx i2=tx i2)∧(∀ (i3:Nat), i3 < 1→∃ (x2:Nat), x2 < 1∧(bm, 0)=(bm, 0)∧(∀ (v1:Int), h v1=h v1)∧∀ (v2:Int), h
      v2=true→ge v2=ge v2)∧(List.length x1.1≤x1.2.2.2∧x1.2.2.2≤9223372036854775807∧(List.length x1.1=0→x1.2.2.2=0))∧gpOk file hf en dn x1.1)∧((if false=true then true else ph==(3:Int))=false→(bT=bT∧0=0)∧tl≤tl∧(∀ (k1:Nat), k1 < tl→true=true)∧(bx=bx∧ox=ox)∧bm=bm∧0 < 1∧(∀ (v1:Int), h v1=true→true=true)∧∀ (x'1:(Nat × Nat × Int × Int × Bool × Bool × List UInt8 × Int × Int × Int × Eng.RowD Int × (Nat ×
      (Int→Bool) × (Int→Int)) × Int × Int × Int × Int × Int × Unit) × Unit), x'1=((bT, 0, (3:Int), ph, tme, ten, nm, sz, la, sm, Eng.RowD.mk bx ox tl cx (decide (tl=0)) tx, (bm, h, ge), tr, (0:Int), wy, cl, du, ()), ())→(∀ (v2:Int), ((((((((((((((Prod.fst x'1).2).2.2)).2).2).2).2).2).2).2).2).1).2).1 v2=true→0≤v2∧v2 < 65536)∧∀ (y1:List Int × Nat × Nat × Nat), Rising y1.1∧(∀ (z:Int),
      ((((((((((((((Prod.fst x'1).2).2.2)).2).2).2).2).2).2).2).2).1).2).1 z=true↔z ∈ y1.1)∧List.length (gapsR (trN (((Prod.fst x'1).2.2))) (((((((((((((((Prod.fst x'1).2).2.2)).2).2).2).2).2).2).2).2).1).2).2) (0:Int) y1.1)≤y1.2.2.2∧y1.2.2.2≤9223372036854775807∧(List.length (gapsR (trN (((Prod.fst x'1).2.2))) (((((((((((((((Prod.fst x'1).2).2.2)).2).2).2).2).2).2).2).2).1).2).2) (0:Int)
      y1.1)=0→y1.2.2.2=0)→∃ (x2:List (Int × Int) × Nat × Nat × Nat), (y1.2.1=x2.2.1∧y1.2.2.1=x2.2.2.1∧0=0∧List.length (gapsR (trN (((Prod.fst x'1).2.2))) (((((((((((((((Prod.fst x'1).2).2.2)).2).2).2).2).2).2).2).2).1).2).2) (0:Int) y1.1)=List.length x2.1∧y1.2.2.2=x2.2.2.2∧decide (List.length (gapsR (trN (((Prod.fst x'1).2.2))) (((((((((((((((Prod.fst x'1).2).2.2)).2).2).2).2).2).2).2).2).1).2).2)
      (0:Int) y1.1)=0)=decide (List.length x2.1=0))∧((y1.2.1=x2.2.1∧y1.2.2.1=x2.2.2.1∧decide (List.length (gapsR (trN (((Prod.fst x'1).2.2))) (((((((((((((((Prod.fst x'1).2).2.2)).2).2).2).2).2).2).2).2).1).2).2) (0:Int) y1.1)=0)=decide (List.length x2.1=0)∧List.length x2.1≤List.length (gapsR (trN (((Prod.fst x'1).2.2))) (((((((((((((((Prod.fst x'1).2).2.2)).2).2).2).2).2).2).2).2).1).2).2) (0:Int)
      y1.1)∧List.length x2.1≤x2.2.2.2∧x2.2.2.2≤y1.2.2.2)∧∀ (i4:Nat), i4 < List.length x2.1→(List.getD (gapsR (trN (((Prod.fst x'1).2.2))) (((((((((((((((Prod.fst x'1).2).2.2)).2).2).2).2).2).2).2).2).1).2).2) (0:Int) y1.1) i4 ((0:Int), (0:Int))).1=(List.getD x2.1 i4 ((0:Int), (0:Int))).1∧(List.getD (gapsR (trN (((Prod.fst x'1).2.2))) (((((((((((((((Prod.fst x'1).2).2.2)).2).2).2).2).2).2).2).2).1).2).2)
      (0:Int) y1.1) i4 ((0:Int), (0:Int))).2=(List.getD x2.1 i4 ((0:Int), (0:Int))).2)∧((bR=bR∧0=0∧false=false∧1≤1∧1≤1∧1≤1)∧(10:Int)=10∧(3:Int)=3∧false=false∧(bO=bO∧oO=oO∧0=0∧1=1∧cO=cO∧false=false)∧0=0∧0=0∧0=0∧0=0∧0=0∧true=true)∧((bO=bO∧oO=oO∧false=false∧1≤1∧1≤cO∧cO≤cO)∧∀ (i5:Nat), i5 <
      1→0=0∧bT=bT∧0=0)∧((bT=bT∧0=0∧false=false∧1≤1∧1≤1∧1≤1)∧(3:Int)=3∧ph=ph∧tme=tme∧ten=ten∧nm=nm∧sz=sz∧la=la∧sm=sm∧(bx=bx∧ox=ox∧0=0∧tl=tl∧cx=cx∧decide (tl=0)=decide (tl=0))∧bm=bm∧tr=tr∧(0:Int)=0∧wy=wy∧cl=cl∧du=du)∧((bx=bx∧ox=ox∧decide (tl=0)=decide (tl=0)∧tl≤tl∧tl≤cx∧cx≤cx)∧∀ (i6:Nat), i6 < tl→tx i6=tx i6)∧(∀ (i7:Nat), i7 < 1→∃ (x3:Nat), x3 < 1∧(bm, 0)=(bm, 0)∧(∀ (v3:Int), h v3=h v3)∧∀ (v4:Int), h
      v4=true→ge v4=ge v4)∧(List.length x2.1≤x2.2.2.2∧x2.2.2.2≤9223372036854775807∧(List.length x2.1=0→x2.2.2.2=0))∧gpOk file hf en dn x2.1)) (by kernel_rfl) ?_
  obtain ⟨hF, h3⟩ := hi
  dsimp only at hF h3
  have hdn0 : ¬ ph = 3 → dn = false := fun q => by
    cases dn with
    | false => rfl
    | true => exact absurd (hF.done rfl).1 q
  have hdn : ph = 3 → dn = true := fun q => by
    cases dn with
    | true => rfl
    | false =>
      have h1 : ph = if en = true then 2 else 1 := (hF.ed rfl).2.2
      split at h1 <;> omega
  have ht := hF.tcap
  repeat' (first | with_reducible exact rfl | exact trivial | exact Nat.le_refl _ | exact Int.le_refl _ | exact Int.one_pos | exact Nat.one_pos | exact nil_eqv rfl rfl rfl | exact ⟨0, by decide, rfl, fun _ => rfl, fun _ _ => rfl⟩ | refine And.intro ?_ ?_ | intro _)
  · rename_i b q
    have q : ph = 3 := by simpa using q
    have hO : gpOk file hf en dn [] := ⟨(fun g hg => by cases hg), (fun _ p => by rw [hdn q] at p; cases p), Nat.zero_le _⟩
    refine ⟨([], 0, 0, 0), ?_⟩
    repeat' (first | with_reducible exact rfl | exact hO | exact hF.cap.1 | exact ht.1 | exact trivial | exact Nat.le_refl _ | exact Int.le_refl _ | exact Int.one_pos | exact Nat.one_pos | exact nil_eqv rfl rfl rfl | exact ⟨0, by decide, rfl, fun _ => rfl, fun _ _ => rfl⟩ | refine And.intro ?_ ?_ | intro _ | exact rfl)
    all_goals (first | decide | skip)
  · rename_i b q x' e v hv
    have q : ¬ ph = 3 := by simpa using q
    obtain rfl := hdn0 q
    subst e
    exact (hF.pre.runs.1.1 v hv).1
  · rename_i b q x' e v hv
    have q : ¬ ph = 3 := by simpa using q
    obtain rfl := hdn0 q
    subst e
    have h1 := hF.pre.runs.1.1 v hv
    have h2 := hF.pre.runs.2
    dsimp only at h1 h2
    omega
  · rename_i b q x' e y hy
    have q : ¬ ph = 3 := by simpa using q
    obtain rfl := hdn0 q
    subst e
    obtain ⟨r1, r2, c1, c2, c3⟩ := hy
    have hO := hF.pre.gap h3 r1 r2 (trN (3, ph, tme, ten, nm, sz, la, sm, ⟨bx, ox, tl, cx, decide (tl = 0), tx⟩, (bm, h, ge), tr, 0, wy, cl, du, ())) rfl
    refine ⟨(gapsR (trN (3, ph, tme, ten, nm, sz, la, sm, ⟨bx, ox, tl, cx, decide (tl = 0), tx⟩, (bm, h, ge), tr, 0, wy, cl, du, ())) ge 0 y.1, y.2), ?_⟩
    repeat' (first | with_reducible exact rfl | exact hO | exact hF.cap.1 | exact ht.1 | exact trivial | exact Nat.le_refl _ | exact Int.le_refl _ | exact Int.one_pos | exact Nat.one_pos | exact nil_eqv rfl rfl rfl | exact ⟨0, by decide, rfl, fun _ => rfl, fun _ _ => rfl⟩ | refine And.intro ?_ ?_ | intro _ | exact rfl)
    all_goals (first | exact c1 | exact c2 | exact c3 | (rename_i q; exact c3 q) | decide | skip)
end Rc
