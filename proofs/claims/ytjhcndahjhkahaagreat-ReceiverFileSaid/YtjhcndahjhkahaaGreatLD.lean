/-
  OWN WORK. Receiver: arrive.
-/
import Derived.Test.YtjhcndahjhkahaaGreatLX
import Derived.Test.YtjhcndahjhkahaaGreatLB
namespace Rc
open Go Go.Proofs Eng
set_option linter.unusedVariables false
set_option linter.unusedSimpArgs false
set_option maxRecDepth 100000
set_option maxHeartbeats 4000000
abbrev trE (x : TS) : Ent := ⟨502, x.bT, 0, 15, 1, fun _ => tsT x, true, true, 1, 82, false, none⟩
abbrev mpE (x : TS) : Ent := ⟨504, x.bm, 0, 0, 1, fun _ => .mobj x.h (fun k => .int .i64 (x.ge k)), true, false, 1, 80, false, some fun _ => (x.bm, 0)⟩
def tcapOk (x : TxX) : Prop := x.2.2.1 ≤ x.2.2.2.1 ∧ x.2.2.2.1 ≤ 9223372036854775807 ∧ (x.2.2.1 = 0 → x.2.2.2.1 = 0)
abbrev ArX := TS × Int × List UInt8
def arrA : LA := ⟨0, ArX, [0, 1, 2], fun x => [.ptr 502 x.1.bT 0 [.elt 0 15], .int .i64 x.2.1, .str x.2.2], [502, 503, 504], fun x => [trE x.1, txE x.1.tx, mpE x.1],
  fun x => Runs x.1.tx.2.2.1 x.1.h x.1.ge ∧ 0 ≤ x.2.1 ∧ 1 ≤ x.2.2.length ∧ x.2.1 + x.2.2.length ≤ 65535 ∧ x.1.tx.2.2.1 ≤ 65535 ∧ tcapOk x.1.tx, fun _ => 0⟩
abbrev ArY := TxX × (Int → Bool) × (Int → Int)
abbrev arTs (x : TS) (y : ArY) : TS := { x with tx := y.1, h := y.2.1, ge := y.2.2 }
def arrP (x : ArX) (y : ArY) : Prop :=
  ((y.1.2.2.1 : Nat) : Int) = (if x.2.1 + x.2.2.length > x.1.tx.2.2.1 then x.2.1 + x.2.2.length else x.1.tx.2.2.1) ∧ tcapOk y.1 ∧
  (∀ k : Nat, k < x.1.tx.2.2.1 → y.1.2.2.2.2 k = x.1.tx.2.2.2.2 k ∨ (x.2.1 ≤ k ∧ (k : Int) < x.2.1 + x.2.2.length ∧ y.1.2.2.2.2 k = (x.2.2.getD ((k : Int) - x.2.1).toNat 0).toNat)) ∧
  (∀ k : Nat, x.2.1 ≤ k → (k : Int) < x.2.1 + x.2.2.length → y.1.2.2.2.2 k = (x.2.2.getD ((k : Int) - x.2.1).toNat 0).toNat ∨ Cov x.1.h x.1.ge k) ∧
  ∃ from_ end_, Uni x.1.h x.1.ge x.2.1 (x.2.1 + x.2.2.length) from_ end_ (fun z => x.1.h z = true) ∧ (∀ z, y.2.1 z = newH x.1.h x.1.ge x.2.1 (x.2.1 + x.2.2.length) from_ z) ∧ ∀ z, y.2.2 z = newG x.1.ge from_ end_ z
def arrB (x : ArX) (y : ArY) : SV × Hp := (.tup [], [trE (arTs x.1 y), txE y.1, mpE (arTs x.1 y)])
def arrC := bxC arrA (fun _ => ArY) arrB arrP
def EAR : Env := E0.addE 56 startsT
theorem EAR_ok : EnvOk Tryz.prog EAR := E0_ok.addE starts_ok
theorem cp_elem {data : List UInt8} {at_ next a : Int} {f : Nat → Int} {cap : Nat} (h0 : 0 ≤ at_) (h1 : at_ ≤ next) (h2 : next < a) (h3 : a ≤ at_ + data.length) (hc : a ≤ cap) (k : Nat) :
    (if (if cap = next.toNat then 0 else next.toNat) ≤ k ∧ k < (if cap = next.toNat then 0 else next.toNat) + min (((data.take ((data.length : Nat) : Int).toNat).drop (next - at_).toNat).length) (a.toNat - next.toNat) then ((((data.take ((data.length : Nat) : Int).toNat).drop (next - at_).toNat).getD (k - if cap = next.toNat then 0 else next.toNat) 0).toNat : Int) else f k) = if next ≤ k ∧ (k : Int) < a then ((data.getD ((k : Int) - at_).toNat 0).toNat : Int) else f k := by
  have e1 : (if cap = next.toNat then 0 else next.toNat) = next.toNat := if_neg (by omega)
  have e2 : ((data.length : Nat) : Int).toNat = data.length := rfl
  rw [e1, e2, List.take_length]
  have e3 : min (data.drop (next - at_).toNat).length (a.toNat - next.toNat) = a.toNat - next.toNat := by rw [List.length_drop]; omega
  rw [e3]
  by_cases q : next ≤ k ∧ (k : Int) < a
  · rw [if_pos q, if_pos (by omega)]
    congr 2
    simp only [List.getD, List.getElem?_drop]
    congr 2
    omega
  · rw [if_neg q, if_neg (by omega)]
/-- inv7, in plain words. -/
def N7 (f0 : Nat → Int) (h : Int → Bool) (ge : Int → Int) (l : List Int) (at_ to : Int) (data : List UInt8) (x : A7) : Prop :=
  x.i ≤ l.length ∧ Uni h ge at_ to x.from_ x.end_ (fun z => z ∈ l.take x.i) ∧ (∀ z, x.h z = (h z && !(decide (z ∈ l.take x.i) && tch h ge at_ to z))) ∧ at_ ≤ x.next ∧
  (∀ k : Nat, x.f k = f0 k ∨ (at_ ≤ k ∧ (k : Int) < to ∧ x.f k = (data.getD ((k : Int) - at_).toNat 0).toNat)) ∧ (∀ k : Nat, at_ ≤ k → (k : Int) < x.next → (k : Int) < to → x.f k = (data.getD ((k : Int) - at_).toNat 0).toNat ∨ Cov h ge k)
theorem n7_next {f0 : Nat → Int} {h : Int → Bool} {ge : Int → Int} {l : List Int} {at_ to : Int} {data : List UInt8} {x : A7} (hx : N7 f0 h ge l at_ to data x) (hl : Rising l) (hi : x.i < l.length) :
    x.h (l.getD x.i 0) = h (l.getD x.i 0) ∧ ∀ z, z ∈ l.take (x.i + 1) ↔ z ∈ l.take x.i ∨ z = l.getD x.i 0 := by
  have ha : l.getD x.i 0 = l[x.i] := by simp [List.getD, hi]
  have hn : l[x.i] ∉ l.take x.i := fun q => by
    obtain ⟨j, hj⟩ := List.getElem?_of_mem q
    have hj2 : j < x.i := by
      have := (List.getElem?_eq_some_iff.1 hj).1
      rw [List.length_take] at this
      omega
    rw [List.getElem?_take_of_lt hj2] at hj
    obtain ⟨j1, j2⟩ := List.getElem?_eq_some_iff.1 hj
    have := (List.pairwise_iff_getElem.1 hl) j x.i j1 hi hj2
    omega
  rw [ha]
  refine ⟨?_, fun z => ?_⟩
  · rw [hx.2.2.1, decide_eq_false hn]
    simp
  · rw [List.take_succ_eq_append_getElem hi, List.mem_append, List.mem_singleton]
theorem n7_skip {f0 : Nat → Int} {h : Int → Bool} {ge : Int → Int} {l : List Int} {at_ to : Int} {data : List UInt8} {x : A7} (hx : N7 f0 h ge l at_ to data x) (hl : Rising l) (hi : x.i < l.length) (ht : tch h ge at_ to (l.getD x.i 0) ≠ true) :
    N7 f0 h ge l at_ to data ⟨x.i + 1, x.next, x.from_, x.end_, x.f, x.h⟩ := by
  obtain ⟨_, hm⟩ := n7_next hx hl hi
  obtain ⟨x1, x2, x3, x4, x5, x6⟩ := hx
  refine ⟨hi, x2.skip ht hm, fun z => ?_, x4, x5, x6⟩
  rw [x3]
  dsimp only
  by_cases q : z = l.getD x.i 0
  · rw [q]
    have : tch h ge at_ to (l.getD x.i 0) = false := by simpa using ht
    rw [this]
    simp
  · have : decide (z ∈ l.take (x.i + 1)) = decide (z ∈ l.take x.i) := decide_eq_decide.2 ((hm z).trans ⟨fun r => r.resolve_right q, .inl⟩)
    rw [this]
theorem n7_step {f0 : Nat → Int} {h : Int → Bool} {ge : Int → Int} {l : List Int} {at_ to : Int} {data : List UInt8} {x : A7} (hx : N7 f0 h ge l at_ to data x) (hl : Rising l) (hi : x.i < l.length) (ht : tch h ge at_ to (l.getD x.i 0) = true) {f' : Nat → Int}
    (hf : ∀ k : Nat, f' k = if x.next ≤ k ∧ (k : Int) < l.getD x.i 0 then ((data.getD ((k : Int) - at_).toNat 0).toNat : Int) else x.f k) :
    N7 f0 h ge l at_ to data ⟨x.i + 1, if ge (l.getD x.i 0) > x.next then ge (l.getD x.i 0) else x.next, if l.getD x.i 0 < x.from_ then l.getD x.i 0 else x.from_, if ge (l.getD x.i 0) > x.end_ then ge (l.getD x.i 0) else x.end_, f', fun z => x.h z && !decide (z = l.getD x.i 0)⟩ := by
  obtain ⟨_, hm⟩ := n7_next hx hl hi
  obtain ⟨x1, x2, x3, x4, x5, x6⟩ := hx
  obtain ⟨t1, t2, t3⟩ := tch_iff.1 ht
  refine ⟨hi, x2.step ht hm, fun z => ?_, by dsimp only; split <;> omega, fun k => ?_, fun k k1 k2 k3 => ?_⟩
  · dsimp only
    rw [x3]
    by_cases q : z = l.getD x.i 0
    · have : decide (z ∈ l.take (x.i + 1)) = true := decide_eq_true ((hm z).2 (.inr q))
      rw [this, q, ht]
      simp
    · have : decide (z ∈ l.take (x.i + 1)) = decide (z ∈ l.take x.i) := decide_eq_decide.2 ((hm z).trans ⟨fun r => r.resolve_right q, .inl⟩)
      rw [this, decide_eq_false q]
      simp
  · dsimp only
    rw [hf]
    split
    · exact .inr ⟨by omega, by omega, rfl⟩
    · exact x5 k
  · dsimp only at k2 ⊢
    rw [hf]
    split
    · exact .inl rfl
    · rename_i q
      by_cases r : (k : Int) < x.next
      · exact x6 k k1 r k3
      · refine .inr ⟨l.getD x.i 0, t1, by omega, ?_⟩
        split at k2 <;> omega
theorem arrive_ok : EcOk Tryz.prog 54 arrC := by
  refine bx_run (A := arrA) (fun _ => EAR_ok) Tryz.func54 rfl (by kernel_rfl) 3 rfl (fun _ => rfl) (Nat.le_of_ble_eq_true rfl) (fun _ => [.joinD 4 joinA4 200, .loopD 7 loopA7, .draw 12 (.take 0 (.take 1 (.take 2 (.take 3 (.take 4 (.take 5 (.take 6 (.take 7 (.take 8 (.take 9 (.take 10 (.take 11 (.br 12 .fin .stop))))))))))))) [100503], .draw 18 (.take 0 (.take 1 (.take 2 (.take 3 (.take 4 (.take 5 (.take 6 (.take 7 (.take 8 (.take 9 (.take 10 (.take 11 (.br 12 .fin .stop))))))))))))) [100503], .joinD 19 joinA19 260]) 10 (fun ⟨⟨bT, bO, oO, cO, ph, tme, ten, nm, sz, la, sm, ⟨bx, ox, tl, cx, tx⟩, bm, h, ge, tr, wy, cl, du⟩, at_, data⟩ hi hw => ?_)
  refine vc_of (q :=
      ∀ (v1:Int), v1=(↑(List.length data):Int)→∀ (v2:Int), v2=IntKind.i64.wrap (at_+v1)→((bT=bT∧0=0)∧∀ (v3:Int), v3=(↑tl:Int)→∀ (v4:Int), v4=IntKind.i64.wrap (v2 - v3)→(decide (v4 > (0:Int))=true→(bT=bT∧0=0)∧(bx=bx∧ox=ox)∧(decide (tl=0)=true→decide (tl=0)=true)∧0=0∧tl≤tl∧cx≤cx∧(tl+Int.toNat v4)*1≤140737488355328∧tl+Int.toNat v4≤9223372036854775807∧0≤v4∧v4≤9223372036854775807∧∀ (b1 b2 b3:Nat),
      tl+Int.toNat v4≤b3→b3≤9223372036854775807→(decide (tl=0)=true→Int.toNat v4=0→b3=0)→(bT=bT∧0=0)∧∃ (x1:Nat × Nat × Nat × Nat × (Nat→Int)), (0=0∧bT=bT∧0=0)∧((bT=bT∧0=0∧false=false∧1≤1∧1≤1∧1≤1)∧(3:Int)=3∧ph=ph∧tme=tme∧ten=ten∧nm=nm∧sz=sz∧la=la∧sm=sm∧(b1=x1.1∧b2=x1.2.1∧0=0∧tl+Int.toNat v4=x1.2.2.1∧b3=x1.2.2.2.1∧(decide (tl=0)&&decide (Int.toNat v4=0))=decide
      (x1.2.2.1=0))∧bm=bm∧tr=tr∧(0:Int)=0∧wy=wy∧cl=cl∧du=du)∧((b1=x1.1∧b2=x1.2.1∧(decide (tl=0)&&decide (Int.toNat v4=0))=decide (x1.2.2.1=0)∧x1.2.2.1≤tl+Int.toNat v4∧x1.2.2.1≤x1.2.2.2.1∧x1.2.2.2.1≤b3)∧∀ (i1:Nat), i1 < x1.2.2.1→(if i1 < tl then tx i1 else (0:Int))=x1.2.2.2.2 i1)∧((↑x1.2.2.1:Int)=if v2 > (↑(slN (fldV (SV.agg [SV.int IntKind.i64 (3:Int), SV.int IntKind.i64 ph, SV.bool tme, SV.bool ten,
      SV.str nm, SV.int IntKind.i64 sz, SV.int IntKind.i64 la, SV.int IntKind.u32 sm, SV.slice 503 bx ox [] 1 0 tl cx (decide (tl=0)), SV.map 504 bm 0, SV.int IntKind.i64 tr, SV.int IntKind.i64 (0:Int), SV.int IntKind.i64 wy, SV.int IntKind.i64 cl, SV.int IntKind.i64 du]) 8)):Int) then v2 else (↑(slN (fldV (SV.agg [SV.int IntKind.i64 (3:Int), SV.int IntKind.i64 ph, SV.bool tme, SV.bool ten, SV.str nm,
      SV.int IntKind.i64 sz, SV.int IntKind.i64 la, SV.int IntKind.u32 sm, SV.slice 503 bx ox [] 1 0 tl cx (decide (tl=0)), SV.map 504 bm 0, SV.int IntKind.i64 tr, SV.int IntKind.i64 (0:Int), SV.int IntKind.i64 wy, SV.int IntKind.i64 cl, SV.int IntKind.i64 du]) 8)):Int))∧(∀ (k1:Nat), k1 < slN (fldV (SV.agg [SV.int IntKind.i64 (3:Int), SV.int IntKind.i64 ph, SV.bool tme, SV.bool ten, SV.str nm, SV.int
      IntKind.i64 sz, SV.int IntKind.i64 la, SV.int IntKind.u32 sm, SV.slice 503 bx ox [] 1 0 tl cx (decide (tl=0)), SV.map 504 bm 0, SV.int IntKind.i64 tr, SV.int IntKind.i64 (0:Int), SV.int IntKind.i64 wy, SV.int IntKind.i64 cl, SV.int IntKind.i64 du]) 8)→x1.2.2.2.2 k1=rowI (Ent.mk 503 bx ox 1 tl (fun (k:Nat) ↦ SV.int IntKind.u8 (tx k)) true false cx (5:Go.TypeId) (decide (tl=0)) Option.none)
      k1)∧x1.2.2.1≤x1.2.2.2.1∧x1.2.2.2.1≤9223372036854775807∧(x1.2.2.1=0→x1.2.2.2.1=0))∧(decide (v4 > (0:Int))=false→∃ (x1:Nat × Nat × Nat × Nat × (Nat→Int)), (0=0∧bT=bT∧0=0)∧((bT=bT∧0=0∧false=false∧1≤1∧1≤1∧1≤1)∧(3:Int)=3∧ph=ph∧tme=tme∧ten=ten∧nm=nm∧sz=sz∧la=la∧sm=sm∧(bx=x1.1∧ox=x1.2.1∧0=0∧tl=x1.2.2.1∧cx=x1.2.2.2.1∧decide (tl=0)=decide
      (x1.2.2.1=0))∧bm=bm∧tr=tr∧(0:Int)=0∧wy=wy∧cl=cl∧du=du)∧((bx=x1.1∧ox=x1.2.1∧decide (tl=0)=decide (x1.2.2.1=0)∧x1.2.2.1≤tl∧x1.2.2.1≤x1.2.2.2.1∧x1.2.2.2.1≤cx)∧∀ (i1:Nat), i1 < x1.2.2.1→tx i1=x1.2.2.2.2 i1)∧((↑x1.2.2.1:Int)=if v2 > (↑(slN (fldV (SV.agg [SV.int IntKind.i64 (3:Int), SV.int IntKind.i64 ph, SV.bool tme, SV.bool ten, SV.str nm, SV.int IntKind.i64 sz, SV.int IntKind.i64 la, SV.int
      IntKind.u32 sm, SV.slice 503 bx ox [] 1 0 tl cx (decide (tl=0)), SV.map 504 bm 0, SV.int IntKind.i64 tr, SV.int IntKind.i64 (0:Int), SV.int IntKind.i64 wy, SV.int IntKind.i64 cl, SV.int IntKind.i64 du]) 8)):Int) then v2 else (↑(slN (fldV (SV.agg [SV.int IntKind.i64 (3:Int), SV.int IntKind.i64 ph, SV.bool tme, SV.bool ten, SV.str nm, SV.int IntKind.i64 sz, SV.int IntKind.i64 la, SV.int IntKind.u32
      sm, SV.slice 503 bx ox [] 1 0 tl cx (decide (tl=0)), SV.map 504 bm 0, SV.int IntKind.i64 tr, SV.int IntKind.i64 (0:Int), SV.int IntKind.i64 wy, SV.int IntKind.i64 cl, SV.int IntKind.i64 du]) 8)):Int))∧(∀ (k1:Nat), k1 < slN (fldV (SV.agg [SV.int IntKind.i64 (3:Int), SV.int IntKind.i64 ph, SV.bool tme, SV.bool ten, SV.str nm, SV.int IntKind.i64 sz, SV.int IntKind.i64 la, SV.int IntKind.u32 sm,
      SV.slice 503 bx ox [] 1 0 tl cx (decide (tl=0)), SV.map 504 bm 0, SV.int IntKind.i64 tr, SV.int IntKind.i64 (0:Int), SV.int IntKind.i64 wy, SV.int IntKind.i64 cl, SV.int IntKind.i64 du]) 8)→x1.2.2.2.2 k1=rowI (Ent.mk 503 bx ox 1 tl (fun (k:Nat) ↦ SV.int IntKind.u8 (tx k)) true false cx (5:Go.TypeId) (decide (tl=0)) Option.none)
      k1)∧x1.2.2.1≤x1.2.2.2.1∧x1.2.2.2.1≤9223372036854775807∧(x1.2.2.1=0→x1.2.2.2.1=0)))∧∀ (x1:Nat × Nat × Nat × Nat × (Nat→Int)), inv4 v2 (slN (fldV (SV.agg [SV.int IntKind.i64 (3:Int), SV.int IntKind.i64 ph, SV.bool tme, SV.bool ten, SV.str nm, SV.int IntKind.i64 sz, SV.int IntKind.i64 la, SV.int IntKind.u32 sm, SV.slice 503 bx ox [] 1 0 tl cx (decide (tl=0)), SV.map 504 bm 0, SV.int IntKind.i64 tr,
      SV.int IntKind.i64 (0:Int), SV.int IntKind.i64 wy, SV.int IntKind.i64 cl, SV.int IntKind.i64 du]) 8)) (Ent.mk 503 bx ox 1 tl (fun (k:Nat) ↦ SV.int IntKind.u8 (tx k)) true false cx (5:Go.TypeId) (decide (tl=0)) Option.none) x1→(∀ (v4:Int), h v4=true→0≤v4∧v4 < 65536)∧bm=bm∧0 < 1∧(bT=bT∧0=0)∧∀ (s1:List Int) (y1:Nat × Nat × Nat), Rising s1→(∀ (x:Int), h x=true↔x ∈ s1)→List.length
      s1≤y1.2.2∧y1.2.2≤9223372036854775807∧(List.length s1=0→y1.2.2=0)→∀ (v5:Int), v5=(↑(List.length s1):Int)→(∃ (x2:A7), 0=(↑x2.i:Int)∧at_=x2.next∧at_=x2.from_∧v2=x2.end_∧((x1.1=x1.1∧x1.2.1=x1.2.1∧decide (x1.2.2.1=0)=decide (x1.2.2.1=0)∧x1.2.2.1≤x1.2.2.1∧x1.2.2.1≤x1.2.2.2.1∧x1.2.2.2.1≤x1.2.2.2.1)∧∀ (i1:Nat), i1 < x1.2.2.1→x1.2.2.2.2 i1=x2.f i1)∧(∀ (i2:Nat), i2 < 1→∃ (x3:Nat), x3 < 1∧(bm, 0)=(bm, 0)∧(∀
      (v6:Int), h v6=x2.h v6)∧∀ (v7:Int), h v7=true→ge v7=getE (Ent.mk 504 bm 0 0 1 (fun (x:Nat) ↦ SV.mobj h fun (k:Int) ↦ SV.int IntKind.i64 (ge k)) true false 1 (80:Go.TypeId) false (Option.some fun (x:Nat) ↦ (bm, 0))) v7)∧x2.i≤List.length (lstE (Ent.mk 200 y1.1 y1.2.1 1 (List.length s1) (fun (k:Nat) ↦ SV.int IntKind.i64 (List.getD s1 k (0:Int))) true false y1.2.2 (3:Go.TypeId) (decide (List.length
      s1=0)) Option.none) (SV.slice 200 y1.1 y1.2.1 [] 1 0 (List.length s1) y1.2.2 (decide (List.length s1=0))))∧Uni (hasE (Ent.mk 504 bm 0 0 1 (fun (x:Nat) ↦ SV.mobj h fun (k:Int) ↦ SV.int IntKind.i64 (ge k)) true false 1 (80:Go.TypeId) false (Option.some fun (x:Nat) ↦ (bm, 0)))) (getE (Ent.mk 504 bm 0 0 1 (fun (x:Nat) ↦ SV.mobj h fun (k:Int) ↦ SV.int IntKind.i64 (ge k)) true false 1 (80:Go.TypeId)
      false (Option.some fun (x:Nat) ↦ (bm, 0)))) at_ v2 x2.from_ x2.end_ (Membership.mem (List.take x2.i (lstE (Ent.mk 200 y1.1 y1.2.1 1 (List.length s1) (fun (k:Nat) ↦ SV.int IntKind.i64 (List.getD s1 k (0:Int))) true false y1.2.2 (3:Go.TypeId) (decide (List.length s1=0)) Option.none) (SV.slice 200 y1.1 y1.2.1 [] 1 0 (List.length s1) y1.2.2 (decide (List.length s1=0))))))∧(∀ (v6:Int), x2.h v6=(hasE
      (Ent.mk 504 bm 0 0 1 (fun (x:Nat) ↦ SV.mobj h fun (k:Int) ↦ SV.int IntKind.i64 (ge k)) true false 1 (80:Go.TypeId) false (Option.some fun (x:Nat) ↦ (bm, 0))) v6&&!(decide (v6 ∈ List.take x2.i (lstE (Ent.mk 200 y1.1 y1.2.1 1 (List.length s1) (fun (k:Nat) ↦ SV.int IntKind.i64 (List.getD s1 k (0:Int))) true false y1.2.2 (3:Go.TypeId) (decide (List.length s1=0)) Option.none) (SV.slice 200 y1.1 y1.2.1
      [] 1 0 (List.length s1) y1.2.2 (decide (List.length s1=0)))))&&tch (hasE (Ent.mk 504 bm 0 0 1 (fun (x:Nat) ↦ SV.mobj h fun (k:Int) ↦ SV.int IntKind.i64 (ge k)) true false 1 (80:Go.TypeId) false (Option.some fun (x:Nat) ↦ (bm, 0)))) (getE (Ent.mk 504 bm 0 0 1 (fun (x:Nat) ↦ SV.mobj h fun (k:Int) ↦ SV.int IntKind.i64 (ge k)) true false 1 (80:Go.TypeId) false (Option.some fun (x:Nat) ↦ (bm, 0)))) at_
      v2 v6)))∧at_≤x2.next∧(∀ (k1:Nat), x2.f k1=rowI (Ent.mk 503 x1.1 x1.2.1 1 x1.2.2.1 (fun (k:Nat) ↦ SV.int IntKind.u8 (x1.2.2.2.2 k)) true false x1.2.2.2.1 (5:Go.TypeId) (decide (x1.2.2.1=0)) Option.none) k1∨at_≤(↑k1:Int)∧(↑k1:Int) < v2∧x2.f k1=(↑(UInt8.toNat (List.getD (strS (SV.str data)) (Int.toNat ((↑k1:Int) - at_)) 0)):Int))∧∀ (k2:Nat), at_≤(↑k2:Int)→(↑k2:Int) < x2.next→(↑k2:Int) < v2→x2.f
      k2=(↑(UInt8.toNat (List.getD (strS (SV.str data)) (Int.toNat ((↑k2:Int) - at_)) 0)):Int)∨Cov (hasE (Ent.mk 504 bm 0 0 1 (fun (x:Nat) ↦ SV.mobj h fun (k:Int) ↦ SV.int IntKind.i64 (ge k)) true false 1 (80:Go.TypeId) false (Option.some fun (x:Nat) ↦ (bm, 0)))) (getE (Ent.mk 504 bm 0 0 1 (fun (x:Nat) ↦ SV.mobj h fun (k:Int) ↦ SV.int IntKind.i64 (ge k)) true false 1 (80:Go.TypeId) false (Option.some fun
      (x:Nat) ↦ (bm, 0)))) (↑k2:Int))∧∀ (x3:A7), inv7 (Ent.mk 503 x1.1 x1.2.1 1 x1.2.2.1 (fun (k:Nat) ↦ SV.int IntKind.u8 (x1.2.2.2.2 k)) true false x1.2.2.2.1 (5:Go.TypeId) (decide (x1.2.2.1=0)) Option.none) (Ent.mk 504 bm 0 0 1 (fun (x:Nat) ↦ SV.mobj h fun (k:Int) ↦ SV.int IntKind.i64 (ge k)) true false 1 (80:Go.TypeId) false (Option.some fun (x:Nat) ↦ (bm, 0))) (lstE (Ent.mk 200 y1.1 y1.2.1 1
      (List.length s1) (fun (k:Nat) ↦ SV.int IntKind.i64 (List.getD s1 k (0:Int))) true false y1.2.2 (3:Go.TypeId) (decide (List.length s1=0)) Option.none) (SV.slice 200 y1.1 y1.2.1 [] 1 0 (List.length s1) y1.2.2 (decide (List.length s1=0)))) at_ v2 (strS (SV.str data)) x3→(decide ((↑x3.i:Int) < v5)=true→0≤(↑x3.i:Int)∧(↑x3.i:Int) < (↑(List.length s1):Int)∧(y1.1=y1.1∧y1.2.1=y1.2.1)∧Int.toNat (↑x3.i:Int) <
      List.length s1∧(bT=bT∧0=0)∧bm=bm∧0 < 1∧∀ (t1:Bool), (t1=if decide ((if x3.h (List.getD s1 (Int.toNat (↑x3.i:Int)) (0:Int))=true then getE (Ent.mk 504 bm 0 0 1 (fun (x:Nat) ↦ SV.mobj h fun (k:Int) ↦ SV.int IntKind.i64 (ge k)) true false 1 (80:Go.TypeId) false (Option.some fun (x:Nat) ↦ (bm, 0))) (List.getD s1 (Int.toNat (↑x3.i:Int)) (0:Int)) else (0:Int)) < at_)=true then true else decide (List.getD
      s1 (Int.toNat (↑x3.i:Int)) (0:Int) > v2))→(t1=true→∀ (v7:Int), v7=IntKind.i64.wrap ((↑x3.i:Int)+(1:Int))→∃ (x4:A7), v7=(↑x4.i:Int)∧x3.next=x4.next∧x3.from_=x4.from_∧x3.end_=x4.end_∧((x1.1=x1.1∧x1.2.1=x1.2.1∧decide (x1.2.2.1=0)=decide (x1.2.2.1=0)∧x1.2.2.1≤x1.2.2.1∧x1.2.2.1≤x1.2.2.2.1∧x1.2.2.2.1≤x1.2.2.2.1)∧∀ (i3:Nat), i3 < x1.2.2.1→x3.f i3=x4.f i3)∧(∀ (i4:Nat), i4 < 1→∃ (x5:Nat), x5 < 1∧(bm,
      0)=(bm, 0)∧(∀ (v8:Int), x3.h v8=x4.h v8)∧∀ (v9:Int), x3.h v9=true→getE (Ent.mk 504 bm 0 0 1 (fun (x:Nat) ↦ SV.mobj h fun (k:Int) ↦ SV.int IntKind.i64 (ge k)) true false 1 (80:Go.TypeId) false (Option.some fun (x:Nat) ↦ (bm, 0))) v9=getE (Ent.mk 504 bm 0 0 1 (fun (x:Nat) ↦ SV.mobj h fun (k:Int) ↦ SV.int IntKind.i64 (ge k)) true false 1 (80:Go.TypeId) false (Option.some fun (x:Nat) ↦ (bm, 0)))
      v9)∧inv7 (Ent.mk 503 x1.1 x1.2.1 1 x1.2.2.1 (fun (k:Nat) ↦ SV.int IntKind.u8 (x1.2.2.2.2 k)) true false x1.2.2.2.1 (5:Go.TypeId) (decide (x1.2.2.1=0)) Option.none) (Ent.mk 504 bm 0 0 1 (fun (x:Nat) ↦ SV.mobj h fun (k:Int) ↦ SV.int IntKind.i64 (ge k)) true false 1 (80:Go.TypeId) false (Option.some fun (x:Nat) ↦ (bm, 0))) (lstE (Ent.mk 200 y1.1 y1.2.1 1 (List.length s1) (fun (k:Nat) ↦ SV.int
      IntKind.i64 (List.getD s1 k (0:Int))) true false y1.2.2 (3:Go.TypeId) (decide (List.length s1=0)) Option.none) (SV.slice 200 y1.1 y1.2.1 [] 1 0 (List.length s1) y1.2.2 (decide (List.length s1=0)))) at_ v2 (strS (SV.str data)) x4∧slN (SV.slice 200 y1.1 y1.2.1 [] 1 0 (List.length s1) y1.2.2 (decide (List.length s1=0))) - x4.i < slN (SV.slice 200 y1.1 y1.2.1 [] 1 0 (List.length s1) y1.2.2 (decide
      (List.length s1=0))) - x3.i)∧(t1=false→(decide (List.getD s1 (Int.toNat (↑x3.i:Int)) (0:Int) > x3.next)=true→(bT=bT∧0=0)∧(0:Int)≤List.getD s1 (Int.toNat (↑x3.i:Int)) (0:Int)∧List.getD s1 (Int.toNat (↑x3.i:Int)) 0≤(↑x1.2.2.2.1:Int)∧(0:Int)≤x3.next∧x3.next≤List.getD s1 (Int.toNat (↑x3.i:Int)) (0:Int)∧∀ (v8:Int), v8=IntKind.i64.wrap (x3.next - at_)→0≤(↑(List.length data):Int)∧(↑(List.length
      data):Int)≤(↑(List.length data):Int)∧0≤v8∧v8≤(↑(List.length data):Int)∧((x1.1=x1.1∧x1.2.1=x1.2.1)∧(if x1.2.2.2.1=Int.toNat x3.next then 0 else Int.toNat x3.next)+(Int.toNat (List.getD s1 (Int.toNat (↑x3.i:Int)) (0:Int)) - Int.toNat x3.next)≤x1.2.2.1∧∀ (v9:Int), v9=(↑(Min.min (List.length (List.drop (Int.toNat v8) (List.take (Int.toNat (↑(List.length data):Int)) data))) (Int.toNat (List.getD s1
      (Int.toNat (↑x3.i:Int)) (0:Int)) - Int.toNat x3.next)):Int)→∀ (v10:Int), (v10=if (if x3.h (List.getD s1 (Int.toNat (↑x3.i:Int)) (0:Int))=true then getE (Ent.mk 504 bm 0 0 1 (fun (x:Nat) ↦ SV.mobj h fun (k:Int) ↦ SV.int IntKind.i64 (ge k)) true false 1 (80:Go.TypeId) false (Option.some fun (x:Nat) ↦ (bm, 0))) (List.getD s1 (Int.toNat (↑x3.i:Int)) (0:Int)) else (0:Int)) > x3.next then if x3.h
      (List.getD s1 (Int.toNat (↑x3.i:Int)) (0:Int))=true then getE (Ent.mk 504 bm 0 0 1 (fun (x:Nat) ↦ SV.mobj h fun (k:Int) ↦ SV.int IntKind.i64 (ge k)) true false 1 (80:Go.TypeId) false (Option.some fun (x:Nat) ↦ (bm, 0))) (List.getD s1 (Int.toNat (↑x3.i:Int)) (0:Int)) else (0:Int) else x3.next)→∀ (v11:Int), (v11=if List.getD s1 (Int.toNat (↑x3.i:Int)) (0:Int) < x3.from_ then List.getD s1 (Int.toNat
      (↑x3.i:Int)) (0:Int) else x3.from_)→∀ (v12:Int), (v12=if (if x3.h (List.getD s1 (Int.toNat (↑x3.i:Int)) (0:Int))=true then getE (Ent.mk 504 bm 0 0 1 (fun (x:Nat) ↦ SV.mobj h fun (k:Int) ↦ SV.int IntKind.i64 (ge k)) true false 1 (80:Go.TypeId) false (Option.some fun (x:Nat) ↦ (bm, 0))) (List.getD s1 (Int.toNat (↑x3.i:Int)) (0:Int)) else (0:Int)) > x3.end_ then if x3.h (List.getD s1 (Int.toNat
      (↑x3.i:Int)) (0:Int))=true then getE (Ent.mk 504 bm 0 0 1 (fun (x:Nat) ↦ SV.mobj h fun (k:Int) ↦ SV.int IntKind.i64 (ge k)) true false 1 (80:Go.TypeId) false (Option.some fun (x:Nat) ↦ (bm, 0))) (List.getD s1 (Int.toNat (↑x3.i:Int)) (0:Int)) else (0:Int) else x3.end_)→(bT=bT∧0=0)∧bm=bm∧0 < 1∧(∀ (b1:Nat), b1 < 1→b1≠0→bm≠bm)∧∀ (v13:Int), v13=IntKind.i64.wrap ((↑x3.i:Int)+(1:Int))→∃ (x4:A7),
      v13=(↑x4.i:Int)∧v10=x4.next∧v11=x4.from_∧v12=x4.end_∧((x1.1=x1.1∧x1.2.1=x1.2.1∧decide (x1.2.2.1=0)=decide (x1.2.2.1=0)∧x1.2.2.1≤x1.2.2.1∧x1.2.2.1≤x1.2.2.2.1∧x1.2.2.2.1≤x1.2.2.2.1)∧∀ (i3:Nat), i3 < x1.2.2.1→(if (if x1.2.2.2.1=Int.toNat x3.next then 0 else Int.toNat x3.next)≤i3∧i3 < (if x1.2.2.2.1=Int.toNat x3.next then 0 else Int.toNat x3.next)+Min.min (List.length (List.drop (Int.toNat v8)
      (List.take (Int.toNat (↑(List.length data):Int)) data))) (Int.toNat (List.getD s1 (Int.toNat (↑x3.i:Int)) (0:Int)) - Int.toNat x3.next) then (↑(UInt8.toNat (List.getD (List.drop (Int.toNat v8) (List.take (Int.toNat (↑(List.length data):Int)) data)) (i3 - if x1.2.2.2.1=Int.toNat x3.next then 0 else Int.toNat x3.next) 0)):Int) else x3.f i3)=x4.f i3)∧(∀ (i4:Nat), i4 < 1→∃ (x5:Nat), x5 < 1∧(bm, 0)=(bm,
      0)∧(∀ (v14:Int), (x3.h v14&&!decide (v14=List.getD s1 (Int.toNat (↑x3.i:Int)) (0:Int)))=x4.h v14)∧∀ (v15:Int), (x3.h v15&&!decide (v15=List.getD s1 (Int.toNat (↑x3.i:Int)) (0:Int)))=true→getE (Ent.mk 504 bm 0 0 1 (fun (x:Nat) ↦ SV.mobj h fun (k:Int) ↦ SV.int IntKind.i64 (ge k)) true false 1 (80:Go.TypeId) false (Option.some fun (x:Nat) ↦ (bm, 0))) v15=getE (Ent.mk 504 bm 0 0 1 (fun (x:Nat) ↦
      SV.mobj h fun (k:Int) ↦ SV.int IntKind.i64 (ge k)) true false 1 (80:Go.TypeId) false (Option.some fun (x:Nat) ↦ (bm, 0))) v15)∧inv7 (Ent.mk 503 x1.1 x1.2.1 1 x1.2.2.1 (fun (k:Nat) ↦ SV.int IntKind.u8 (x1.2.2.2.2 k)) true false x1.2.2.2.1 (5:Go.TypeId) (decide (x1.2.2.1=0)) Option.none) (Ent.mk 504 bm 0 0 1 (fun (x:Nat) ↦ SV.mobj h fun (k:Int) ↦ SV.int IntKind.i64 (ge k)) true false 1 (80:Go.TypeId)
      false (Option.some fun (x:Nat) ↦ (bm, 0))) (lstE (Ent.mk 200 y1.1 y1.2.1 1 (List.length s1) (fun (k:Nat) ↦ SV.int IntKind.i64 (List.getD s1 k (0:Int))) true false y1.2.2 (3:Go.TypeId) (decide (List.length s1=0)) Option.none) (SV.slice 200 y1.1 y1.2.1 [] 1 0 (List.length s1) y1.2.2 (decide (List.length s1=0)))) at_ v2 (strS (SV.str data)) x4∧slN (SV.slice 200 y1.1 y1.2.1 [] 1 0 (List.length s1)
      y1.2.2 (decide (List.length s1=0))) - x4.i < slN (SV.slice 200 y1.1 y1.2.1 [] 1 0 (List.length s1) y1.2.2 (decide (List.length s1=0))) - x3.i)∧True)∧(decide (List.getD s1 (Int.toNat (↑x3.i:Int)) (0:Int) > x3.next)=false→∀ (v9:Int), (v9=if (if x3.h (List.getD s1 (Int.toNat (↑x3.i:Int)) (0:Int))=true then getE (Ent.mk 504 bm 0 0 1 (fun (x:Nat) ↦ SV.mobj h fun (k:Int) ↦ SV.int IntKind.i64 (ge k)) true
      false 1 (80:Go.TypeId) false (Option.some fun (x:Nat) ↦ (bm, 0))) (List.getD s1 (Int.toNat (↑x3.i:Int)) (0:Int)) else (0:Int)) > x3.next then if x3.h (List.getD s1 (Int.toNat (↑x3.i:Int)) (0:Int))=true then getE (Ent.mk 504 bm 0 0 1 (fun (x:Nat) ↦ SV.mobj h fun (k:Int) ↦ SV.int IntKind.i64 (ge k)) true false 1 (80:Go.TypeId) false (Option.some fun (x:Nat) ↦ (bm, 0))) (List.getD s1 (Int.toNat
      (↑x3.i:Int)) (0:Int)) else (0:Int) else x3.next)→∀ (v10:Int), (v10=if List.getD s1 (Int.toNat (↑x3.i:Int)) (0:Int) < x3.from_ then List.getD s1 (Int.toNat (↑x3.i:Int)) (0:Int) else x3.from_)→∀ (v11:Int), (v11=if (if x3.h (List.getD s1 (Int.toNat (↑x3.i:Int)) (0:Int))=true then getE (Ent.mk 504 bm 0 0 1 (fun (x:Nat) ↦ SV.mobj h fun (k:Int) ↦ SV.int IntKind.i64 (ge k)) true false 1 (80:Go.TypeId)
      false (Option.some fun (x:Nat) ↦ (bm, 0))) (List.getD s1 (Int.toNat (↑x3.i:Int)) (0:Int)) else (0:Int)) > x3.end_ then if x3.h (List.getD s1 (Int.toNat (↑x3.i:Int)) (0:Int))=true then getE (Ent.mk 504 bm 0 0 1 (fun (x:Nat) ↦ SV.mobj h fun (k:Int) ↦ SV.int IntKind.i64 (ge k)) true false 1 (80:Go.TypeId) false (Option.some fun (x:Nat) ↦ (bm, 0))) (List.getD s1 (Int.toNat (↑x3.i:Int)) (0:Int)) else
      (0:Int) else x3.end_)→(bT=bT∧0=0)∧bm=bm∧0 < 1∧(∀ (b1:Nat), b1 < 1→b1≠0→bm≠bm)∧∀ (v12:Int), v12=IntKind.i64.wrap ((↑x3.i:Int)+(1:Int))→∃ (x4:A7), v12=(↑x4.i:Int)∧v9=x4.next∧v10=x4.from_∧v11=x4.end_∧((x1.1=x1.1∧x1.2.1=x1.2.1∧decide (x1.2.2.1=0)=decide (x1.2.2.1=0)∧x1.2.2.1≤x1.2.2.1∧x1.2.2.1≤x1.2.2.2.1∧x1.2.2.2.1≤x1.2.2.2.1)∧∀ (i3:Nat), i3 < x1.2.2.1→x3.f i3=x4.f i3)∧(∀ (i4:Nat), i4 < 1→∃ (x5:Nat), x5
      < 1∧(bm, 0)=(bm, 0)∧(∀ (v13:Int), (x3.h v13&&!decide (v13=List.getD s1 (Int.toNat (↑x3.i:Int)) (0:Int)))=x4.h v13)∧∀ (v14:Int), (x3.h v14&&!decide (v14=List.getD s1 (Int.toNat (↑x3.i:Int)) (0:Int)))=true→getE (Ent.mk 504 bm 0 0 1 (fun (x:Nat) ↦ SV.mobj h fun (k:Int) ↦ SV.int IntKind.i64 (ge k)) true false 1 (80:Go.TypeId) false (Option.some fun (x:Nat) ↦ (bm, 0))) v14=getE (Ent.mk 504 bm 0 0 1 (fun
      (x:Nat) ↦ SV.mobj h fun (k:Int) ↦ SV.int IntKind.i64 (ge k)) true false 1 (80:Go.TypeId) false (Option.some fun (x:Nat) ↦ (bm, 0))) v14)∧inv7 (Ent.mk 503 x1.1 x1.2.1 1 x1.2.2.1 (fun (k:Nat) ↦ SV.int IntKind.u8 (x1.2.2.2.2 k)) true false x1.2.2.2.1 (5:Go.TypeId) (decide (x1.2.2.1=0)) Option.none) (Ent.mk 504 bm 0 0 1 (fun (x:Nat) ↦ SV.mobj h fun (k:Int) ↦ SV.int IntKind.i64 (ge k)) true false 1
      (80:Go.TypeId) false (Option.some fun (x:Nat) ↦ (bm, 0))) (lstE (Ent.mk 200 y1.1 y1.2.1 1 (List.length s1) (fun (k:Nat) ↦ SV.int IntKind.i64 (List.getD s1 k (0:Int))) true false y1.2.2 (3:Go.TypeId) (decide (List.length s1=0)) Option.none) (SV.slice 200 y1.1 y1.2.1 [] 1 0 (List.length s1) y1.2.2 (decide (List.length s1=0)))) at_ v2 (strS (SV.str data)) x4∧slN (SV.slice 200 y1.1 y1.2.1 [] 1 0
      (List.length s1) y1.2.2 (decide (List.length s1=0))) - x4.i < slN (SV.slice 200 y1.1 y1.2.1 [] 1 0 (List.length s1) y1.2.2 (decide (List.length s1=0))) - x3.i)))∧(decide ((↑x3.i:Int) < v5)=false→((decide (x3.next < v2)=true→(bT=bT∧0=0)∧0≤v2∧v2≤(↑x1.2.2.2.1:Int)∧(0:Int)≤x3.next∧x3.next≤v2∧∀ (v7:Int), v7=IntKind.i64.wrap (x3.next - at_)→0≤(↑(List.length data):Int)∧(↑(List.length
      data):Int)≤(↑(List.length data):Int)∧0≤v7∧v7≤(↑(List.length data):Int)∧((x1.1=x1.1∧x1.2.1=x1.2.1)∧(if x1.2.2.2.1=Int.toNat x3.next then 0 else Int.toNat x3.next)+(Int.toNat v2 - Int.toNat x3.next)≤x1.2.2.1∧∀ (v8:Int), v8=(↑(Min.min (List.length (List.drop (Int.toNat v7) (List.take (Int.toNat (↑(List.length data):Int)) data))) (Int.toNat v2 - Int.toNat x3.next)):Int)→∃ (x4:Nat→Int),
      (0=0∧bT=bT∧0=0)∧((x1.1=x1.1∧x1.2.1=x1.2.1∧decide (x1.2.2.1=0)=decide (x1.2.2.1=0)∧x1.2.2.1≤x1.2.2.1∧x1.2.2.1≤x1.2.2.2.1∧x1.2.2.2.1≤x1.2.2.2.1)∧∀ (i3:Nat), i3 < x1.2.2.1→(if (if x1.2.2.2.1=Int.toNat x3.next then 0 else Int.toNat x3.next)≤i3∧i3 < (if x1.2.2.2.1=Int.toNat x3.next then 0 else Int.toNat x3.next)+Min.min (List.length (List.drop (Int.toNat v7) (List.take (Int.toNat (↑(List.length
      data):Int)) data))) (Int.toNat v2 - Int.toNat x3.next) then (↑(UInt8.toNat (List.getD (List.drop (Int.toNat v7) (List.take (Int.toNat (↑(List.length data):Int)) data)) (i3 - if x1.2.2.2.1=Int.toNat x3.next then 0 else Int.toNat x3.next) 0)):Int) else x3.f i3)=x4 i3)∧∀ (k3:Nat), x4 k3=if x3.next≤(↑k3:Int)∧(↑k3:Int) < v2 then (↑(UInt8.toNat (List.getD (strS (SV.str data)) (Int.toNat ((↑k3:Int) -
      at_)) 0)):Int) else rowI (Ent.mk 503 x1.1 x1.2.1 1 x1.2.2.1 (fun (k:Nat) ↦ SV.int IntKind.u8 (x3.f k)) true false x1.2.2.2.1 (5:Go.TypeId) (decide (x1.2.2.1=0)) Option.none) k3)∧True)∧(decide (x3.next < v2)=false→∃ (x4:Nat→Int), (0=0∧bT=bT∧0=0)∧((x1.1=x1.1∧x1.2.1=x1.2.1∧decide (x1.2.2.1=0)=decide (x1.2.2.1=0)∧x1.2.2.1≤x1.2.2.1∧x1.2.2.1≤x1.2.2.2.1∧x1.2.2.2.1≤x1.2.2.2.1)∧∀ (i3:Nat), i3 <
      x1.2.2.1→x3.f i3=x4 i3)∧∀ (k3:Nat), x4 k3=if x3.next≤(↑k3:Int)∧(↑k3:Int) < v2 then (↑(UInt8.toNat (List.getD (strS (SV.str data)) (Int.toNat ((↑k3:Int) - at_)) 0)):Int) else rowI (Ent.mk 503 x1.1 x1.2.1 1 x1.2.2.1 (fun (k:Nat) ↦ SV.int IntKind.u8 (x3.f k)) true false x1.2.2.2.1 (5:Go.TypeId) (decide (x1.2.2.1=0)) Option.none) k3))∧∀ (x5:Nat→Int), inv19 (Ent.mk 503 x1.1 x1.2.1 1 x1.2.2.1 (fun
      (k:Nat) ↦ SV.int IntKind.u8 (x3.f k)) true false x1.2.2.2.1 (5:Go.TypeId) (decide (x1.2.2.1=0)) Option.none) at_ x3.next v2 (strS (SV.str data)) x5→(bT=bT∧0=0)∧bm=bm∧0 < 1∧(∀ (b1:Nat), b1 < 1→b1≠0→bm≠bm)∧∃ (x6:(Nat × Nat × Nat × Nat × (Nat→Int)) × (Int→Bool) × (Int→Int)),
      True∧((bT=bT∧0=0∧false=false∧1≤1∧1≤1∧1≤1)∧(3:Int)=3∧ph=ph∧tme=tme∧ten=ten∧nm=nm∧sz=sz∧la=la∧sm=sm∧(x1.1=x6.1.1∧x1.2.1=x6.1.2.1∧0=0∧x1.2.2.1=x6.1.2.2.1∧x1.2.2.2.1=x6.1.2.2.2.1∧decide (x1.2.2.1=0)=decide (x6.1.2.2.1=0))∧bm=bm∧tr=tr∧(0:Int)=0∧wy=wy∧cl=cl∧du=du)∧((x1.1=x6.1.1∧x1.2.1=x6.1.2.1∧decide (x1.2.2.1=0)=decide (x6.1.2.2.1=0)∧x6.1.2.2.1≤x1.2.2.1∧x6.1.2.2.1≤x6.1.2.2.2.1∧x6.1.2.2.2.1≤x1.2.2.2.1)∧∀
      (i4:Nat), i4 < x6.1.2.2.1→x5 i4=x6.1.2.2.2.2 i4)∧(∀ (i5:Nat), i5 < 1→∃ (x7:Nat), x7 < 1∧(bm, 0)=(bm, 0)∧(∀ (v8:Int), (x3.h v8||decide (v8=x3.from_))=x6.2.1 v8)∧∀ (v9:Int), (x3.h v9||decide (v9=x3.from_))=true→(if v9=x3.from_ then x3.end_ else getE (Ent.mk 504 bm 0 0 1 (fun (x:Nat) ↦ SV.mobj h fun (k:Int) ↦ SV.int IntKind.i64 (ge k)) true false 1 (80:Go.TypeId) false (Option.some fun (x:Nat) ↦ (bm,
      0))) v9)=x6.2.2 v9)∧((↑x6.1.2.2.1:Int)=if at_+(↑(List.length data):Int) > (↑tl:Int) then at_+(↑(List.length data):Int) else (↑tl:Int))∧tcapOk x6.1∧(∀ (k4:Nat), k4 < tl→x6.1.2.2.2.2 k4=tx k4∨at_≤(↑k4:Int)∧(↑k4:Int) < at_+(↑(List.length data):Int)∧x6.1.2.2.2.2 k4=(↑(UInt8.toNat (List.getD data (Int.toNat ((↑k4:Int) - at_)) 0)):Int))∧(∀ (k5:Nat), at_≤(↑k5:Int)→(↑k5:Int) < at_+(↑(List.length
      data):Int)→x6.1.2.2.2.2 k5=(↑(UInt8.toNat (List.getD data (Int.toNat ((↑k5:Int) - at_)) 0)):Int)∨Cov h ge (↑k5:Int))∧∃ (x7:Int), ∃ (x8:Int), (Uni h ge at_ (at_+(↑(List.length data):Int)) x7 x8 fun (z:Int) ↦ h z=true)∧(∀ (v8:Int), x6.2.1 v8=newH h ge at_ (at_+(↑(List.length data):Int)) x7 v8)∧∀ (v9:Int), x6.2.2 v9=newG ge x7 x8 v9)) (by kernel_rfl) ?_
  obtain ⟨hR, a0, d1, ad, tl6, tc1, tc2, tc3⟩ := hi
  dsimp only at hR a0 d1 ad tl6 tc1 tc2 tc3
  intro v1 e1 v2 e2
  have e2 : v2 = at_ + data.length := by rw [e2, e1]; exact w64_id (by omega) (by omega)
  subst e2
  refine ⟨⟨⟨rfl, rfl⟩, fun v3 e3 v4 e4 => ?_⟩, ?_⟩
  · have e4 : v4 = at_ + data.length - tl := by rw [e4, e3]; exact w64_id (by omega) (by omega)
    subst e4
    refine ⟨fun q => ?_, fun q => ?_⟩
    · have q := of_decide_eq_true q
      refine ⟨⟨rfl, rfl⟩, ⟨rfl, rfl⟩, fun q => q, rfl, Nat.le_refl _, Nat.le_refl _, by omega, by omega, by omega, by omega, fun b1 b2 b3 g1 g2 g3 => ⟨⟨rfl, rfl⟩, ?_⟩⟩
      have hz : (decide (tl = 0) && decide ((at_ + data.length - tl).toNat = 0)) = decide (tl + (at_ + data.length - tl).toNat = 0) := by
        rw [decide_eq_false (show ¬ (at_ + data.length - tl).toNat = 0 by omega), decide_eq_false (show ¬ tl + (at_ + data.length - tl).toNat = 0 by omega), Bool.and_false]
      refine ⟨(b1, b2, tl + (at_ + data.length - tl).toNat, b3, fun i => if i < tl then tx i else 0), ⟨rfl, rfl, rfl⟩, ⟨⟨rfl, rfl, rfl, Nat.le_refl _, Nat.le_refl _, Nat.le_refl _⟩, rfl, rfl, rfl, rfl, rfl, rfl, rfl, rfl, ⟨rfl, rfl, rfl, rfl, rfl, hz⟩, rfl, rfl, rfl, rfl, rfl, rfl⟩, ⟨⟨rfl, rfl, hz, Nat.le_refl _, g1, Nat.le_refl _⟩, fun i1 hi1 => rfl⟩, ?_, fun k hk => if_pos hk, g1, g2, fun q => by dsimp only at q; omega⟩
      show ((tl + (at_ + data.length - tl).toNat : Nat) : Int) = if at_ + data.length > (tl : Int) then at_ + data.length else tl
      rw [if_pos (by omega)]
      omega
    · have q := of_decide_eq_false q
      refine ⟨(bx, ox, tl, cx, tx), ⟨rfl, rfl, rfl⟩, ⟨⟨rfl, rfl, rfl, Nat.le_refl _, Nat.le_refl _, Nat.le_refl _⟩, rfl, rfl, rfl, rfl, rfl, rfl, rfl, rfl, ⟨rfl, rfl, rfl, rfl, rfl, rfl⟩, rfl, rfl, rfl, rfl, rfl, rfl⟩, ⟨⟨rfl, rfl, rfl, Nat.le_refl _, tc1, Nat.le_refl _⟩, fun i1 hi1 => rfl⟩, ?_, fun k hk => rfl, tc1, tc2, tc3⟩
      show (tl : Int) = if at_ + data.length > (tl : Int) then at_ + data.length else tl
      rw [if_neg (by omega)]
  rintro ⟨bx', ox', tl', cx', tx'⟩ hx1
  have hx1 : inv4 (at_ + data.length) tl ⟨503, bx, ox, 1, tl, fun k => .int .u8 (tx k), true, false, cx, 5, decide (tl = 0), none⟩ (bx', ox', tl', cx', tx') := hx1
  obtain ⟨n1, n2, n3, n4, n5⟩ := hx1
  dsimp only at n1 n2 n3 n4 n5
  have n2 : ∀ k, k < tl → tx' k = tx k := n2
  have hto : at_ + data.length ≤ tl' := by rw [n1]; split <;> omega
  have htl : (tl : Int) ≤ tl' := by rw [n1]; split <;> omega
  have ht7 : (tl' : Int) ≤ 65535 := by rw [n1]; split <;> omega
  refine ⟨fun z hz => by have := hR.1 z hz; omega, rfl, by decide, ⟨rfl, rfl⟩, fun s1 y1 r1 r2 ⟨c1, c2, c3⟩ v5 e5 => ?_⟩
  have hl : lstE ⟨200, y1.1, y1.2.1, 1, s1.length, fun k => .int .i64 (s1.getD k 0), true, false, y1.2.2, 3, decide (s1.length = 0), none⟩ (.slice 200 y1.1 y1.2.1 [] 1 0 s1.length y1.2.2 (decide (s1.length = 0))) = s1 := range_map s1
  rw [hl]
  clear hl
  have hbd : s1.length ≤ 65536 := nodup_len 65536 s1 (r1.imp fun q => by omega) (fun k hk => by have := hR.1 k ((r2 k).2 hk); omega)
  dsimp only
  refine ⟨⟨⟨0, at_, at_, at_ + data.length, tx', h⟩, rfl, rfl, rfl, rfl, ⟨⟨rfl, rfl, rfl, Nat.le_refl _, n3, Nat.le_refl _⟩, fun _ _ => rfl⟩, fun i hi => ⟨0, by decide, rfl, fun _ => rfl, fun _ _ => rfl⟩, Nat.zero_le _, Uni.first (fun z => by simp), fun z => (by simp; rfl), Int.le_refl _, fun k => .inl rfl, fun k h1 h2 h3 => by dsimp only at h2; omega⟩, ?_⟩
  intro x3 hx3
  have hx3 : N7 tx' h ge s1 at_ (at_ + data.length) data x3 := hx3
  have ti : ((x3.i : Nat) : Int).toNat = x3.i := rfl
  rw [ti]
  have hx4 := hx3
  obtain ⟨p1, p2, p3, p4, p5, p6⟩ := hx3
  refine ⟨fun hlt => ?_, fun hge => ?_⟩
  · have hlt := of_decide_eq_true hlt
    have hi : x3.i < s1.length := by omega
    obtain ⟨k1, k2⟩ := n7_next hx4 r1 hi
    have ha : h (s1.getD x3.i 0) = true := (r2 _).2 (by simp [List.getD, hi])
    obtain ⟨ha0, ha1, ha2⟩ := hR.1 _ ha
    have hlk : (if x3.h (s1.getD x3.i 0) = true then getE ⟨504, bm, 0, 0, 1, fun _ => .mobj h (fun k => .int .i64 (ge k)), true, false, 1, 80, false, some fun _ => (bm, 0)⟩ (s1.getD x3.i 0) else 0) = ge (s1.getD x3.i 0) := by rw [k1, if_pos ha]; rfl
    rw [hlk]
    have hsk := n7_skip hx4 r1 hi
    have hst := fun ht => n7_step (f' := fun k => if x3.next ≤ k ∧ (k : Int) < s1.getD x3.i 0 then ((data.getD ((k : Int) - at_).toNat 0).toNat : Int) else x3.f k) hx4 r1 hi ht fun _ => rfl
    generalize s1.getD x3.i 0 = a at ha ha0 ha1 ha2 hlk hsk hst ⊢
    refine ⟨by omega, by omega, ⟨rfl, rfl⟩, hi, ⟨rfl, rfl⟩, rfl, by decide, fun t1 f1 => ⟨fun q => ?_, fun q => ?_⟩⟩
    · have ht : tch h ge at_ (at_ + data.length) a ≠ true := by
        rw [ne_eq, tch_iff]
        rw [q] at f1
        rintro ⟨_, u1, u2⟩
        rw [if_neg (by simp; omega)] at f1
        have := of_decide_eq_true f1.symm
        omega
      intro v7 e7
      exact ⟨⟨x3.i + 1, x3.next, x3.from_, x3.end_, x3.f, x3.h⟩, e7.trans (l_succ (by omega)), rfl, rfl, rfl, ⟨⟨rfl, rfl, rfl, Nat.le_refl _, n3, Nat.le_refl _⟩, fun _ _ => rfl⟩, fun i hi => ⟨0, by decide, rfl, fun _ => rfl, fun _ _ => rfl⟩, hsk ht, by show s1.length - (x3.i + 1) < s1.length - x3.i; omega⟩
    · have ht : tch h ge at_ (at_ + data.length) a = true := by
        rw [tch_iff]
        rw [q] at f1
        split at f1
        · cases f1
        · rename_i u
          have u1 := of_decide_eq_false f1.symm
          have u2 : ¬ ge a < at_ := by simpa using u
          exact ⟨ha, by omega, by omega⟩
      obtain ⟨_, u1, u2⟩ := tch_iff.1 ht
      have hst := hst ht
      refine ⟨fun hn => ?_, fun hn => ?_⟩
      · have hn := of_decide_eq_true hn
        have hw : IntKind.i64.wrap (x3.next - at_) = x3.next - at_ := w64_id (by omega) (by omega)
        refine ⟨⟨rfl, rfl⟩, by omega, by omega, by omega, by omega, fun v8 e8 => ?_⟩
        rw [hw] at e8
        subst e8
        refine ⟨by omega, by omega, by omega, by omega, ⟨⟨rfl, rfl⟩, by rw [if_neg (show ¬ cx' = x3.next.toNat by omega)]; omega, fun v9 e9 v10 e10 v11 e11 v12 e12 => ⟨⟨rfl, rfl⟩, rfl, by decide, fun b hb hb2 => by omega, fun v13 e13 => ?_⟩⟩, trivial⟩
        exact ⟨_, e13.trans (l_succ (by omega)), e10, e11, e12, ⟨⟨rfl, rfl, rfl, Nat.le_refl _, n3, Nat.le_refl _⟩, fun k _ => cp_elem a0 p4 hn u2 (by omega) k⟩, fun i hi => ⟨0, by decide, rfl, fun _ => rfl, fun _ _ => rfl⟩, hst, by show s1.length - (x3.i + 1) < s1.length - x3.i; omega⟩
      · have hn := of_decide_eq_false hn
        intro v9 e9 v10 e10 v11 e11
        refine ⟨⟨rfl, rfl⟩, rfl, by decide, fun b hb hb2 => by omega, fun v12 e12 => ?_⟩
        exact ⟨_, e12.trans (l_succ (by omega)), e9, e10, e11, ⟨⟨rfl, rfl, rfl, Nat.le_refl _, n3, Nat.le_refl _⟩, fun k _ => (if_neg (by omega)).symm⟩, fun i hi => ⟨0, by decide, rfl, fun _ => rfl, fun _ _ => rfl⟩, hst, by show s1.length - (x3.i + 1) < s1.length - x3.i; omega⟩
  · have hge := of_decide_eq_false hge
    have hi : x3.i = s1.length := by omega
    have hP : ∀ z, h z = true ↔ z ∈ s1.take x3.i := fun z => by rw [hi, List.take_length]; exact r2 z
    refine ⟨⟨fun q => ?_, fun q => ?_⟩, fun x5 hx5 => ?_⟩
    · have q := of_decide_eq_true q
      have hw : IntKind.i64.wrap (x3.next - at_) = x3.next - at_ := w64_id (by omega) (by omega)
      refine ⟨⟨rfl, rfl⟩, by omega, by omega, by omega, by omega, fun v7 e7 => ?_⟩
      rw [hw] at e7
      subst e7
      refine ⟨by omega, by omega, by omega, by omega, ⟨⟨rfl, rfl⟩, by rw [if_neg (show ¬ cx' = x3.next.toNat by omega)]; omega, fun v8 e8 => ⟨fun k => if x3.next ≤ k ∧ (k : Int) < at_ + data.length then ((data.getD ((k : Int) - at_).toNat 0).toNat : Int) else x3.f k, ⟨rfl, rfl, rfl⟩, ⟨⟨rfl, rfl, rfl, Nat.le_refl _, n3, Nat.le_refl _⟩, fun k _ => cp_elem a0 p4 q (Int.le_refl _) (by omega) k⟩, fun k => rfl⟩⟩, trivial⟩
    · have q := of_decide_eq_false q
      exact ⟨x3.f, ⟨rfl, rfl, rfl⟩, ⟨⟨rfl, rfl, rfl, Nat.le_refl _, n3, Nat.le_refl _⟩, fun k _ => rfl⟩, fun k => (if_neg (by omega)).symm⟩
    · have hx5 : ∀ k : Nat, x5 k = if x3.next ≤ k ∧ (k : Int) < at_ + data.length then ((data.getD ((k : Int) - at_).toNat 0).toNat : Int) else x3.f k := hx5
      have hU := p2.congr hP
      refine ⟨⟨rfl, rfl⟩, rfl, by decide, fun b hb hb2 => by omega, ((bx', ox', tl', cx', x5), newH h ge at_ (at_ + data.length) x3.from_, newG ge x3.from_ x3.end_), trivial, ⟨⟨rfl, rfl, rfl, Nat.le_refl _, Nat.le_refl _, Nat.le_refl _⟩, rfl, rfl, rfl, rfl, rfl, rfl, rfl, rfl, ⟨rfl, rfl, rfl, rfl, rfl, rfl⟩, rfl, rfl, rfl, rfl, rfl, rfl⟩, ⟨⟨rfl, rfl, rfl, Nat.le_refl _, n3, Nat.le_refl _⟩, fun _ _ => rfl⟩, fun i hi => ⟨0, by decide, rfl, fun z => ?_, fun z _ => rfl⟩, n1, ⟨n3, n4, n5⟩, fun k hk => ?_, fun k k1 k2 => ?_, x3.from_, x3.end_, hU, fun z => rfl, fun z => rfl⟩
      · rw [p3]
        show _ = newH h ge at_ (at_ + data.length) x3.from_ z
        unfold newH
        congr 1
        cases hz : h z with
        | false => rfl
        | true => rw [decide_eq_true ((hP z).1 hz)]; rfl
      · dsimp only
        rw [hx5]
        split
        · exact .inr ⟨by omega, by omega, rfl⟩
        · rcases p5 k with r | ⟨r3, r4, r5⟩
          · exact .inl (r.trans (n2 k hk))
          · exact .inr ⟨r3, r4, r5⟩
      · dsimp only
        rw [hx5]
        split
        · exact .inl rfl
        · exact p6 k k1 (by omega) k2
end Rc
