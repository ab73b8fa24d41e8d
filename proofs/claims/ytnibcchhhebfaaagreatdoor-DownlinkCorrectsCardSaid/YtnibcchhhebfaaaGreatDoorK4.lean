/-
  OWN WORK. Marker: the finder's inner functions.
-/
import Derived.Test.YtnibcchhhebfaaaGreatDoorK3
namespace Mk
open Go Go.Proofs Eng
set_option linter.unusedVariables false
set_option linter.unusedSimpArgs false
set_option maxRecDepth 100000
set_option maxHeartbeats 4000000

/-! ### wrong bits -/
/-- Is value x other than the marker's symbol k? -/
def isW (x : Int) (k : Nat) : Bool := decide (x ≥ 0) != (symF k == 1)
def wr (f : Nat → Int) : Nat → Nat
  | 0 => 0
  | k + 1 => wr f k + if isW (f k) k = true then 1 else 0
theorem wr_le (f : Nat → Int) : ∀ k, wr f k ≤ k
  | 0 => Nat.le_refl _
  | k + 1 => by
    have := wr_le f k
    simp only [wr]
    split <;> omega
theorem wr_congr {f g : Nat → Int} : ∀ {k : Nat}, (∀ i, i < k → f i = g i) → wr f k = wr g k
  | 0, _ => rfl
  | k + 1, h => by
    simp only [wr]
    rw [wr_congr fun i hi => h i (by omega), h k (by omega)]
abbrev aRow : ArgL (RowD Int × Unit) := .cons (.row (.int .i64)) .nil
def EC : Env := (E0.addP 62 syms).addQ 4 eqBool
theorem EC_ok : EnvOk Tryz.prog EC := (E0_ok.addP syms_ok).addQ (eqBool_ok (by kernel_rfl))
def countC := pcOf aRow (fun x => [32 ≤ x.1.n]) (fun x => .int .i64 (wr x.1.f 32 : Nat))
theorem symF_nat (k : Nat) : 0 ≤ symF k ∧ symF k < 256 := by unfold symF; omega
theorem count_ok : PcOk Tryz.prog 101 countC := by
  refine pcOf_run (fun _ => EC_ok) Tryz.func101 rfl (by kernel_rfl) (fun x => trivial)
    (fun x => [.lp 4 Nat [3, 9] (fun k => [.int .i64 (wr x.1.f k : Nat), .int .i64 (k : Nat)]) (fun k => k ≤ 32) fun k => 32 - k,
      .draw 6 (.take 0 (.take 1 (.take 2 (.take 3 (.take 4 (.take 5 (.take 6 (.take 7 (.take 8 (.take 9 .fin)))))))))) []]) (fun _ => Nat.le_of_ble_eq_true rfl) (fun ⟨⟨b, off, n, c, z, f⟩, ()⟩ hp hw => ?_)
  refine vc_of (q :=
      ∀ (s1:List UInt8), s1=Mk.symL→∀ (v1:Int), v1=(↑(List.length s1):Int)→(∃ (x1:Nat), (0:Int)=(↑(Mk.wr f x1):Int)∧(0:Int)=(↑x1:Int)∧Nat.le x1 32)∧∀ (b1:Nat), b1≤32→(decide ((↑b1:Int) < v1)=true→(0:Int)≤(↑b1:Int)∧(↑b1:Int) < (↑n:Int)∧(b=b∧off=off)∧Int.toNat (↑b1:Int) < n∧(0:Int)≤(↑b1:Int)∧(↑b1:Int) < (↑(List.length s1):Int)∧((!decide (f (Int.toNat (↑b1:Int))≥(0:Int))==((↑(UInt8.toNat (List.getD s1
      (Int.toNat (↑b1:Int)) 0)):Int)==(1:Int)))=true→∀ (v2:Int), v2=IntKind.i64.wrap ((↑(Mk.wr f b1):Int)+(1:Int))→∀ (v3:Int), v3=IntKind.i64.wrap ((↑b1:Int)+(1:Int))→∃ (x2:Nat), v2=(↑(Mk.wr f x2):Int)∧v3=(↑x2:Int)∧x2≤32∧32 - x2 < 32 - b1)∧((!decide (f (Int.toNat (↑b1:Int))≥(0:Int))==((↑(UInt8.toNat (List.getD s1 (Int.toNat (↑b1:Int)) 0)):Int)==(1:Int)))=false→∀ (v3:Int), v3=IntKind.i64.wrap
      ((↑b1:Int)+(1:Int))→∃ (x2:Nat), (↑(Mk.wr f b1):Int)=(↑(Mk.wr f x2):Int)∧v3=(↑x2:Int)∧x2≤32∧32 - x2 < 32 - b1))∧(decide ((↑b1:Int) < v1)=false→(↑(Mk.wr f b1):Int)=(↑(Mk.wr f 32):Int))) (by kernel_rfl) ?_
  try simp only [eq_self, true_and, and_true, Nat.le_refl, implies_true, forall_const, Bool.false_eq_true, Bool.true_eq_false, reduceCtorEq, false_imp_iff, true_imp_iff, Int.toNat_zero, Int.toNat_natCast, Nat.zero_lt_one, Int.le_refl, allGet]
  obtain ⟨hn, _⟩ := hp
  dsimp only at hn
  intro s1 hs1 v1 hv1
  have hl : s1.length = 32 := by rw [hs1, symL_len]
  rw [hl] at hv1 ⊢
  subst hv1
  refine ⟨⟨0, rfl, rfl, Nat.zero_le _⟩, fun k hk => ⟨fun hlt => ?_, fun hge => ?_⟩⟩
  · have hlt := of_decide_eq_true hlt
    have hw := wr_le f k
    have hsy : ((s1.getD k 0).toNat : Int) = symF k := by rw [hs1]; exact bytof_getD (f := symF) (by omega) (symF_nat k).1 (symF_nat k).2
    have hi : (!decide (f k ≥ 0) == (((s1.getD k 0).toNat : Int) == 1)) = isW (f k) k := by rw [hsy]; rfl
    rw [hi]
    refine ⟨by omega, by omega, by omega, by omega, by omega, fun h v2 h2 v3 h3 => ⟨k + 1, ?_, h3.trans (l_succ (by omega)), by omega, by omega⟩, fun h v3 h3 => ⟨k + 1, ?_, h3.trans (l_succ (by omega)), by omega, by omega⟩⟩
    · rw [h2, w64_id (by omega) (by omega), wr, if_pos h]; rfl
    · rw [wr, if_neg (by rw [h]; decide)]; rfl
  · have hge := of_decide_eq_false hge
    obtain rfl : k = 32 := by omega
    rfl
/-! ### the finder -/
abbrev aFin : Arg (Nat × Nat × ((Nat × Nat × (Int × Bool × Unit)) × Int × OwnD Int × Int × Bool × Int × Int × (Nat × Nat) × Unit)) :=
  .optr 108 8 (.agg (.cons (.optr 105 2 (.agg (.cons (.elt (.int .i64)) (.cons (.elt .bool) .nil)))) (.cons (.elt (.int .i64)) (.cons (.orow 3 (.int .i64)) (.cons (.elt (.int .i64)) (.cons (.elt .bool) (.cons (.elt (.int .i64)) (.cons (.elt (.int .i64)) (.cons (.cl 67 1) .nil)))))))))
abbrev FD := Nat × Nat × ((Nat × Nat × (Int × Bool × Unit)) × Int × OwnD Int × Int × Bool × Int × Int × (Nat × Nat) × Unit)
namespace FD
abbrev sb (d : FD) : Nat := d.2.2.1.1
abbrev so (d : FD) : Nat := d.2.2.1.2.1
abbrev tk (d : FD) : Int := d.2.2.1.2.2.1
abbrev lk (d : FD) : Bool := d.2.2.1.2.2.2.1
abbrev len (d : FD) : Int := d.2.2.2.1
abbrev l (d : FD) : OwnD Int := d.2.2.2.2.1
abbrev pl (d : FD) : Int := d.2.2.2.2.2.1
abbrev op (d : FD) : Bool := d.2.2.2.2.2.2.1
abbrev wg (d : FD) : Int := d.2.2.2.2.2.2.2.1
abbrev ms (d : FD) : Int := d.2.2.2.2.2.2.2.2.1
abbrev gv (d : FD) : Nat × Nat := d.2.2.2.2.2.2.2.2.2.1
abbrev mk (b off sb so : Nat) (tk : Int) (lk : Bool) (len : Int) (l : OwnD Int) (pl : Int) (op : Bool) (wg ms : Int) (gv : Nat × Nat) : FD := (b, off, ((sb, so, (tk, lk, ())), len, l, pl, op, wg, ms, gv, ()))
def cut (l : OwnD Int) (k : Nat) : OwnD Int := ⟨l.b, l.off, l.n - k, l.c, l.z, l.m, l.cap, l.ez, fun i => if i < l.n - k then l.f (i + k) else l.f i⟩
def adv (d : FD) (k : Nat) : FD := mk d.1 d.2.1 d.sb d.so d.tk d.lk d.len (cut d.l k) (d.pl + k) d.op d.wg d.ms d.gv
end FD
def FD.ok (d : FD) : Prop := (d.l.n ≤ d.l.m ∧ d.l.m ≤ d.l.cap ∧ d.l.n ≤ d.l.c ∧ d.l.c ≤ d.l.cap) ∧ (d.l.z = true → d.l.ez = true) ∧ 0 ≤ d.pl ∧ d.pl + d.l.n ≤ 4611686018427387904 ∧ 0 ≤ d.ms ∧ d.ms ≤ 3
abbrev aAdv : ArgL (FD × Int × Unit) := .cons aFin (.cons (.elt (.int .i64)) .nil)
def advance := ecU aAdv (fun x => [0 ≤ x.2.1 ∧ x.2.1 ≤ x.1.l.n, x.1.ok]) (fun _ (_ : Unit) => True) (fun x _ => (x.1.adv x.2.1.toNat, x.2.1, ())) (fun _ _ => .tup [])
theorem advance_ok : EcOk Tryz.prog 70 advance := by
  refine ecC_run (fun _ => E0_ok) Tryz.func70 rfl (by kernel_rfl) []
    (fun x => [.draw 1 (.take 0 (.take 1 (.take 2 (.take 3 (.take 5 (.take 6 (.take 7 (.take 9 (.take 10 (.take 11 (.take 13 (.br 4 (.br 8 (.br 12 (.take 14 (.br 15 (.take 16 (.take 17 (.take 18 (.br 19 .fin .stop)))) .stop)) .stop) (.br 12 (.take 14 (.br 8 (.br 15 (.take 16 (.take 17 (.take 18 (.br 19 .fin .stop)))) .stop) .stop)) .stop)) (.br 8 (.br 4 (.br 12 (.take 14 (.br 15 (.take 16 (.take 17 (.take 18 (.br 19 .fin .stop)))) .stop)) .stop) (.br 12 (.take 14 (.br 4 (.br 15 (.take 16 (.take 17 (.take 18 (.br 19 .fin .stop)))) .stop) (.br 15 (.br 4 (.take 16 (.take 17 (.take 18 (.br 19 .fin .stop)))) .stop) .stop))) .stop)) (.br 12 (.take 14 (.br 4 (.br 8 (.br 15 (.take 16 (.take 17 (.take 18 (.br 19 .fin .stop)))) .stop) .stop) (.br 8 (.br 4 (.br 15 (.take 16 (.take 17 (.take 18 (.br 19 .fin .stop)))) .stop) (.br 15 (.br 4 (.take 16 (.take 17 (.take 18 (.br 19 .fin .stop)))) .stop) .stop)) .stop))) .stop)))))))))))))) [100000, 100002]]) (fun _ => Nat.le_of_ble_eq_true rfl) (fun ⟨⟨fb, fo, ⟨⟨sb, so, ⟨tk, lk, ()⟩⟩, len, ⟨b, off, n, c, z, m, cap, ez, f⟩, pl, op, wg, ms, gv, ()⟩⟩, k, ()⟩ hp hw => ?_)
  refine vc_of (q :=
      (fb=fb∧fo=fo)∧∀ (v1:Int), v1=IntKind.i64.wrap (pl+k)→(fb=fb∧fo=fo)∧((fb=fb∧fo=fo)∧((fb=fb∧fo=fo)∧((fb=fb∧fo=fo)∧(0:Int)≤(↑n:Int)∧(↑n:Int)≤(↑c:Int)∧(0:Int)≤k∧k≤(↑n:Int)∧((b=b∧off=off)∧0+n≤m∧(match if c=Int.toNat k then 0 else Int.toNat k with | 0 => Int.toNat (↑n:Int) - Int.toNat k | Nat.succ i => i+1+(Int.toNat (↑n:Int) - Int.toNat k))≤m∧(b=b∧off=off)∧∀ (v2:Int), v2=(↑(Min.min (Int.toNat (↑n:Int) -
      Int.toNat k) n):Int)→0≤v2∧v2≤(↑c:Int)∧((fb=fb∧fo=fo)∧∃ (x1:Unit), True∧((fb=fb∧fo=fo∧false=false∧1≤1∧1≤1∧1≤1)∧(0=0∧sb=sb∧so=so)∧len=len∧(b=b∧off=off∧0=0∧Int.toNat v2=n - Int.toNat k∧c=c∧z=z)∧v1=pl+(↑(Int.toNat k):Int)∧op=op∧wg=wg∧ms=ms∧SVeq (SV.fn (Go.Fn.func (67:Go.FuncId)) [] [SV.ptr 900001 gv.1 gv.2 [PS.elt 0 1]]) (SV.fn (Go.Fn.func (67:Go.FuncId)) [] [SV.ptr 900001 gv.1 gv.2 [PS.elt 0
      1]]))∧((sb=sb∧so=so∧false=false∧1≤1∧1≤1∧1≤1)∧tk=tk∧lk=lk)∧((b=b∧off=off∧ez=ez∧m≤m∧m≤cap∧cap≤cap)∧∀ (i1:Nat), i1 < m→(if 0≤i1∧i1 < 0+Min.min (Int.toNat (↑n:Int) - Int.toNat k) n then f (match if c=Int.toNat k then 0 else Int.toNat k with | 0 => i1 - 0 | Nat.succ i => i+1+(i1 - 0)) else f i1)=if i1 < n - Int.toNat k then f (i1+Int.toNat k) else f
      i1)∧True)∧True)∧True)∧True)∧((fb=fb∧fo=fo)∧(0:Int)≤(↑n:Int)∧(↑n:Int)≤(↑c:Int)∧(0:Int)≤k∧k≤(↑n:Int)∧((fb=fb∧fo=fo)∧((b=b∧off=off)∧0+n≤m∧(match if c=Int.toNat k then 0 else Int.toNat k with | 0 => Int.toNat (↑n:Int) - Int.toNat k | Nat.succ i => i+1+(Int.toNat (↑n:Int) - Int.toNat k))≤m∧(b=b∧off=off)∧∀ (v3:Int), v3=(↑(Min.min (Int.toNat (↑n:Int) - Int.toNat k)
      n):Int)→0≤v3∧v3≤(↑c:Int)∧((fb=fb∧fo=fo)∧∃ (x1:Unit), True∧((fb=fb∧fo=fo∧false=false∧1≤1∧1≤1∧1≤1)∧(0=0∧sb=sb∧so=so)∧len=len∧(b=b∧off=off∧0=0∧Int.toNat v3=n - Int.toNat k∧c=c∧z=z)∧v1=pl+(↑(Int.toNat k):Int)∧op=op∧wg=wg∧ms=ms∧SVeq (SV.fn (Go.Fn.func (67:Go.FuncId)) [] [SV.ptr 900001 gv.1 gv.2 [PS.elt 0 1]]) (SV.fn (Go.Fn.func (67:Go.FuncId)) [] [SV.ptr 900001 gv.1 gv.2 [PS.elt 0
      1]]))∧((sb=sb∧so=so∧false=false∧1≤1∧1≤1∧1≤1)∧tk=tk∧lk=lk)∧((b=b∧off=off∧ez=ez∧m≤m∧m≤cap∧cap≤cap)∧∀ (i1:Nat), i1 < m→(if 0≤i1∧i1 < 0+Min.min (Int.toNat (↑n:Int) - Int.toNat k) n then f (match if c=Int.toNat k then 0 else Int.toNat k with | 0 => i1 - 0 | Nat.succ i => i+1+(i1 - 0)) else f i1)=if i1 < n - Int.toNat k then f (i1+Int.toNat k) else f
      i1)∧True)∧True)∧True)∧True)∧True)∧((fb=fb∧fo=fo)∧((fb=fb∧fo=fo)∧((fb=fb∧fo=fo)∧(0:Int)≤(↑n:Int)∧(↑n:Int)≤(↑c:Int)∧(0:Int)≤k∧k≤(↑n:Int)∧((b=b∧off=off)∧0+n≤m∧(match if c=Int.toNat k then 0 else Int.toNat k with | 0 => Int.toNat (↑n:Int) - Int.toNat k | Nat.succ i => i+1+(Int.toNat (↑n:Int) - Int.toNat k))≤m∧(b=b∧off=off)∧∀ (v4:Int), v4=(↑(Min.min (Int.toNat (↑n:Int) - Int.toNat k)
      n):Int)→0≤v4∧v4≤(↑c:Int)∧((fb=fb∧fo=fo)∧∃ (x1:Unit), True∧((fb=fb∧fo=fo∧false=false∧1≤1∧1≤1∧1≤1)∧(0=0∧sb=sb∧so=so)∧len=len∧(b=b∧off=off∧0=0∧Int.toNat v4=n - Int.toNat k∧c=c∧z=z)∧v1=pl+(↑(Int.toNat k):Int)∧op=op∧wg=wg∧ms=ms∧SVeq (SV.fn (Go.Fn.func (67:Go.FuncId)) [] [SV.ptr 900001 gv.1 gv.2 [PS.elt 0 1]]) (SV.fn (Go.Fn.func (67:Go.FuncId)) [] [SV.ptr 900001 gv.1 gv.2 [PS.elt 0
      1]]))∧((sb=sb∧so=so∧false=false∧1≤1∧1≤1∧1≤1)∧tk=tk∧lk=lk)∧((b=b∧off=off∧ez=ez∧m≤m∧m≤cap∧cap≤cap)∧∀ (i1:Nat), i1 < m→(if 0≤i1∧i1 < 0+Min.min (Int.toNat (↑n:Int) - Int.toNat k) n then f (match if c=Int.toNat k then 0 else Int.toNat k with | 0 => i1 - 0 | Nat.succ i => i+1+(i1 - 0)) else f i1)=if i1 < n - Int.toNat k then f (i1+Int.toNat k) else f
      i1)∧True)∧True)∧True)∧True)∧((fb=fb∧fo=fo)∧(0:Int)≤(↑n:Int)∧(↑n:Int)≤(↑c:Int)∧(0:Int)≤k∧k≤(↑n:Int)∧((fb=fb∧fo=fo)∧((b=b∧off=off)∧0+n≤m∧(match if c=Int.toNat k then 0 else Int.toNat k with | 0 => Int.toNat (↑n:Int) - Int.toNat k | Nat.succ i => i+1+(Int.toNat (↑n:Int) - Int.toNat k))≤m∧(b=b∧off=off)∧∀ (v5:Int), v5=(↑(Min.min (Int.toNat (↑n:Int) - Int.toNat k)
      n):Int)→0≤v5∧v5≤(↑c:Int)∧((fb=fb∧fo=fo)∧∃ (x1:Unit), True∧((fb=fb∧fo=fo∧false=false∧1≤1∧1≤1∧1≤1)∧(0=0∧sb=sb∧so=so)∧len=len∧(b=b∧off=off∧0=0∧Int.toNat v5=n - Int.toNat k∧c=c∧z=z)∧v1=pl+(↑(Int.toNat k):Int)∧op=op∧wg=wg∧ms=ms∧SVeq (SV.fn (Go.Fn.func (67:Go.FuncId)) [] [SV.ptr 900001 gv.1 gv.2 [PS.elt 0 1]]) (SV.fn (Go.Fn.func (67:Go.FuncId)) [] [SV.ptr 900001 gv.1 gv.2 [PS.elt 0
      1]]))∧((sb=sb∧so=so∧false=false∧1≤1∧1≤1∧1≤1)∧tk=tk∧lk=lk)∧((b=b∧off=off∧ez=ez∧m≤m∧m≤cap∧cap≤cap)∧∀ (i1:Nat), i1 < m→(if 0≤i1∧i1 < 0+Min.min (Int.toNat (↑n:Int) - Int.toNat k) n then f (match if c=Int.toNat k then 0 else Int.toNat k with | 0 => i1 - 0 | Nat.succ i => i+1+(i1 - 0)) else f i1)=if i1 < n - Int.toNat k then f (i1+Int.toNat k) else f
      i1)∧True)∧True)∧True)∧((b=b∧off=off)∧0+n≤m∧(match if c=Int.toNat k then 0 else Int.toNat k with | 0 => Int.toNat (↑n:Int) - Int.toNat k | Nat.succ i => i+1+(Int.toNat (↑n:Int) - Int.toNat k))≤m∧(b=b∧off=off)∧∀ (v6:Int), v6=(↑(Min.min (Int.toNat (↑n:Int) - Int.toNat k) n):Int)→((fb=fb∧fo=fo)∧0≤v6∧v6≤(↑c:Int)∧((fb=fb∧fo=fo)∧∃ (x1:Unit),
      True∧((fb=fb∧fo=fo∧false=false∧1≤1∧1≤1∧1≤1)∧(0=0∧sb=sb∧so=so)∧len=len∧(b=b∧off=off∧0=0∧Int.toNat v6=n - Int.toNat k∧c=c∧z=z)∧v1=pl+(↑(Int.toNat k):Int)∧op=op∧wg=wg∧ms=ms∧SVeq (SV.fn (Go.Fn.func (67:Go.FuncId)) [] [SV.ptr 900001 gv.1 gv.2 [PS.elt 0 1]]) (SV.fn (Go.Fn.func (67:Go.FuncId)) [] [SV.ptr 900001 gv.1 gv.2 [PS.elt 0
      1]]))∧((sb=sb∧so=so∧false=false∧1≤1∧1≤1∧1≤1)∧tk=tk∧lk=lk)∧((b=b∧off=off∧ez=ez∧m≤m∧m≤cap∧cap≤cap)∧∀ (i1:Nat), i1 < m→(if 0≤i1∧i1 < 0+Min.min (Int.toNat (↑n:Int) - Int.toNat k) n then f (match if c=Int.toNat k then 0 else Int.toNat k with | 0 => i1 - 0 | Nat.succ i => i+1+(i1 - 0)) else f i1)=if i1 < n - Int.toNat k then f (i1+Int.toNat k) else f
      i1)∧True)∧True)∧True)∧True)∧True)∧((fb=fb∧fo=fo)∧(0:Int)≤(↑n:Int)∧(↑n:Int)≤(↑c:Int)∧(0:Int)≤k∧k≤(↑n:Int)∧((fb=fb∧fo=fo)∧((fb=fb∧fo=fo)∧((b=b∧off=off)∧0+n≤m∧(match if c=Int.toNat k then 0 else Int.toNat k with | 0 => Int.toNat (↑n:Int) - Int.toNat k | Nat.succ i => i+1+(Int.toNat (↑n:Int) - Int.toNat k))≤m∧(b=b∧off=off)∧∀ (v7:Int), v7=(↑(Min.min (Int.toNat (↑n:Int) - Int.toNat k)
      n):Int)→0≤v7∧v7≤(↑c:Int)∧((fb=fb∧fo=fo)∧∃ (x1:Unit), True∧((fb=fb∧fo=fo∧false=false∧1≤1∧1≤1∧1≤1)∧(0=0∧sb=sb∧so=so)∧len=len∧(b=b∧off=off∧0=0∧Int.toNat v7=n - Int.toNat k∧c=c∧z=z)∧v1=pl+(↑(Int.toNat k):Int)∧op=op∧wg=wg∧ms=ms∧SVeq (SV.fn (Go.Fn.func (67:Go.FuncId)) [] [SV.ptr 900001 gv.1 gv.2 [PS.elt 0 1]]) (SV.fn (Go.Fn.func (67:Go.FuncId)) [] [SV.ptr 900001 gv.1 gv.2 [PS.elt 0
      1]]))∧((sb=sb∧so=so∧false=false∧1≤1∧1≤1∧1≤1)∧tk=tk∧lk=lk)∧((b=b∧off=off∧ez=ez∧m≤m∧m≤cap∧cap≤cap)∧∀ (i1:Nat), i1 < m→(if 0≤i1∧i1 < 0+Min.min (Int.toNat (↑n:Int) - Int.toNat k) n then f (match if c=Int.toNat k then 0 else Int.toNat k with | 0 => i1 - 0 | Nat.succ i => i+1+(i1 - 0)) else f i1)=if i1 < n - Int.toNat k then f (i1+Int.toNat k) else f
      i1)∧True)∧True)∧True)∧True)∧((fb=fb∧fo=fo)∧((fb=fb∧fo=fo)∧((b=b∧off=off)∧0+n≤m∧(match if c=Int.toNat k then 0 else Int.toNat k with | 0 => Int.toNat (↑n:Int) - Int.toNat k | Nat.succ i => i+1+(Int.toNat (↑n:Int) - Int.toNat k))≤m∧(b=b∧off=off)∧∀ (v8:Int), v8=(↑(Min.min (Int.toNat (↑n:Int) - Int.toNat k) n):Int)→0≤v8∧v8≤(↑c:Int)∧((fb=fb∧fo=fo)∧∃ (x1:Unit),
      True∧((fb=fb∧fo=fo∧false=false∧1≤1∧1≤1∧1≤1)∧(0=0∧sb=sb∧so=so)∧len=len∧(b=b∧off=off∧0=0∧Int.toNat v8=n - Int.toNat k∧c=c∧z=z)∧v1=pl+(↑(Int.toNat k):Int)∧op=op∧wg=wg∧ms=ms∧SVeq (SV.fn (Go.Fn.func (67:Go.FuncId)) [] [SV.ptr 900001 gv.1 gv.2 [PS.elt 0 1]]) (SV.fn (Go.Fn.func (67:Go.FuncId)) [] [SV.ptr 900001 gv.1 gv.2 [PS.elt 0
      1]]))∧((sb=sb∧so=so∧false=false∧1≤1∧1≤1∧1≤1)∧tk=tk∧lk=lk)∧((b=b∧off=off∧ez=ez∧m≤m∧m≤cap∧cap≤cap)∧∀ (i1:Nat), i1 < m→(if 0≤i1∧i1 < 0+Min.min (Int.toNat (↑n:Int) - Int.toNat k) n then f (match if c=Int.toNat k then 0 else Int.toNat k with | 0 => i1 - 0 | Nat.succ i => i+1+(i1 - 0)) else f i1)=if i1 < n - Int.toNat k then f (i1+Int.toNat k) else f
      i1)∧True)∧True)∧True)∧((b=b∧off=off)∧0+n≤m∧(match if c=Int.toNat k then 0 else Int.toNat k with | 0 => Int.toNat (↑n:Int) - Int.toNat k | Nat.succ i => i+1+(Int.toNat (↑n:Int) - Int.toNat k))≤m∧(b=b∧off=off)∧∀ (v9:Int), v9=(↑(Min.min (Int.toNat (↑n:Int) - Int.toNat k) n):Int)→((fb=fb∧fo=fo)∧0≤v9∧v9≤(↑c:Int)∧((fb=fb∧fo=fo)∧∃ (x1:Unit),
      True∧((fb=fb∧fo=fo∧false=false∧1≤1∧1≤1∧1≤1)∧(0=0∧sb=sb∧so=so)∧len=len∧(b=b∧off=off∧0=0∧Int.toNat v9=n - Int.toNat k∧c=c∧z=z)∧v1=pl+(↑(Int.toNat k):Int)∧op=op∧wg=wg∧ms=ms∧SVeq (SV.fn (Go.Fn.func (67:Go.FuncId)) [] [SV.ptr 900001 gv.1 gv.2 [PS.elt 0 1]]) (SV.fn (Go.Fn.func (67:Go.FuncId)) [] [SV.ptr 900001 gv.1 gv.2 [PS.elt 0
      1]]))∧((sb=sb∧so=so∧false=false∧1≤1∧1≤1∧1≤1)∧tk=tk∧lk=lk)∧((b=b∧off=off∧ez=ez∧m≤m∧m≤cap∧cap≤cap)∧∀ (i1:Nat), i1 < m→(if 0≤i1∧i1 < 0+Min.min (Int.toNat (↑n:Int) - Int.toNat k) n then f (match if c=Int.toNat k then 0 else Int.toNat k with | 0 => i1 - 0 | Nat.succ i => i+1+(i1 - 0)) else f i1)=if i1 < n - Int.toNat k then f (i1+Int.toNat k) else f i1)∧True)∧True)∧True)∧True)∧True)∧True) (by kernel_rfl) ?_
  try simp only [eq_self, true_and, and_true, Nat.le_refl, implies_true, forall_const, Bool.false_eq_true, Bool.true_eq_false, reduceCtorEq, false_imp_iff, true_imp_iff, Int.toNat_zero, Int.toNat_natCast, Nat.zero_lt_one, Int.le_refl, allGet]
  obtain ⟨⟨k0, k1⟩, ⟨⟨h1, h2, h3, h4⟩, h5, h6, h7, h8, h9⟩, _⟩ := hp
  dsimp only [FD.l, FD.pl, FD.ms] at k0 k1 h1 h2 h3 h4 h5 h6 h7 h8 h9
  obtain ⟨q, rfl⟩ : ∃ q : Nat, k = q := ⟨k.toNat, by omega⟩
  rw [toNat_nat]
  intro v1 hv1
  have e1 : v1 = pl + q := by rw [hv1, w64_id (by omega) (by omega)]
  subst e1
  have hm : (match if c = q then 0 else q with | 0 => n - q | .succ i => i + 1 + (n - q)) ≤ m := by
    show sh (cutIx c q 0) (n - q) ≤ m
    rw [sh_eq]; unfold cutIx; rw [sh_eq]
    split <;> omega
  have hf : ∀ i1, i1 < n - q → f (match if c = q then 0 else q with | 0 => i1 - 0 | .succ i => i + 1 + (i1 - 0)) = f (i1 + q) := fun i1 hi1 => by
    congr 1
    rw [if_neg (by omega)]
    cases q with
    | zero => rfl
    | succ i => show i + 1 + (i1 - 0) = _; omega
  have hq : (q : Int) ≤ n := k1
  have hleaf : (0 + n ≤ m ∧ (match if c = q then 0 else q with | 0 => n - q | .succ i => i + 1 + (n - q)) ≤ m ∧ ∀ v2 : Int, v2 = ((min (n - q) n : Nat) : Int) → 0 ≤ v2 ∧ v2 ≤ (c : Int) ∧ ∃ x1 : Unit, (v2.toNat = n - q ∧ pl + (q : Int) = pl + (q : Int) ∧ SVeq (.fn (.func 67) [] [.ptr 900001 gv.1 gv.2 [.elt 0 1]]) (.fn (.func 67) [] [.ptr 900001 gv.1 gv.2 [.elt 0 1]])) ∧ m ≤ cap ∧ ∀ i1 : Nat, i1 < m → (if 0 ≤ i1 ∧ i1 < 0 + min (n - q) n then f (match if c = q then 0 else q with | 0 => i1 - 0 | .succ i => i + 1 + (i1 - 0)) else f i1) = if i1 < n - q then f (i1 + q) else f i1) := by
    refine ⟨by omega, hm, fun v2 h2' => ⟨by omega, by omega, (), ⟨by omega, rfl, ⟨rfl, rfl, rfl, fun h => h⟩⟩, h2, fun i1 hi => ?_⟩⟩
    by_cases e : i1 < n - q
    · rw [if_pos (by omega), if_pos e, hf i1 e]
    · rw [if_neg (by omega), if_neg e]
  clear hf hv1
  repeat' (first
    | exact hleaf
    | apply And.intro
    | omega)
/-! ### search -/
def wrA (f : Nat → Int) (k : Nat) : Nat := wr (fun i => f (k + i)) 32
def scan (d : FD) (k : Nat) : Prop := (∀ j, j < k → j + 32 ≤ d.l.n ∧ 2 < wrA d.l.f j) ∧ (d.l.n < k + 32 ∨ wrA d.l.f k ≤ 2) ∧ k ≤ d.l.n
abbrev aF : ArgL (FD × Unit) := .cons aFin .nil
def search := ecU aF (fun x => [x.1.ok]) (fun x (k : Nat) => scan x.1 k) (fun x k => (x.1.adv k, ())) (fun x k => .bool (decide (32 ≤ x.1.l.n - k)))
def ES : Env := (E0.addP 101 countC).addE 70 advance
theorem ES_ok : EnvOk Tryz.prog ES := (E0_ok.addP count_ok).addE advance_ok
theorem search_ok : EcOk Tryz.prog 100 search := by
  refine ecC_run (fun _ => ES_ok) Tryz.func100 rfl (by kernel_rfl) []
    (fun x => [.lp 2 Nat [3] (fun k => [.int .i64 (k : Nat)]) (fun k => (∀ j, j < k → j + 32 ≤ x.1.l.n ∧ 2 < wrA x.1.l.f j) ∧ k ≤ x.1.l.n) fun k => x.1.l.n - k]) (fun _ => Nat.le_of_ble_eq_true rfl) (fun ⟨⟨fb, fo, ⟨⟨sb, so, ⟨tk, lk, ()⟩⟩, len, ⟨b, off, n, c, z, m, cap, ez, f⟩, pl, op, wg, ms, gv, ()⟩⟩, ()⟩ hp hw => ?_)
  refine vc_of (q :=
      (∃ (x1:Nat), (0:Int)=(↑x1:Int)∧(∀ (b1:Nat), b1 < x1→b1+32≤n∧2 < Mk.wrA f b1)∧x1≤n)∧∀ (b2:Nat), (∀ (j:Nat), j < b2→j+32≤n∧2 < Mk.wrA f j)∧b2≤n→∀ (v1:Int), v1=IntKind.i64.wrap ((↑b2:Int)+(32:Int))→(fb=fb∧fo=fo)∧∀ (v2:Int), v2=(↑n:Int)→(decide (v1≤v2)=true→fb=fb∧fo=fo)∧(decide (v1≤v2)=true→(0:Int)≤(↑n:Int))∧(decide (v1≤v2)=true→(↑n:Int)≤(↑c:Int))∧(decide (v1≤v2)=true→(0:Int)≤(↑b2:Int))∧(decide
      (v1≤v2)=true→(↑b2:Int)≤(↑n:Int))∧(decide (v1≤v2)=true→(match if c=Int.toNat (↑b2:Int) then 0 else Int.toNat (↑b2:Int) with | 0 => Int.toNat (↑n:Int) - Int.toNat (↑b2:Int) | Nat.succ i => i+1+(Int.toNat (↑n:Int) - Int.toNat (↑b2:Int)))≤m)∧(decide (v1≤v2)=true→∀ (k1:Nat), k1 < Int.toNat (↑n:Int) - Int.toNat (↑b2:Int)→true=true)∧(decide (v1≤v2)=true→b=b∧off=off)∧(decide (v1≤v2)=true→32≤Int.toNat
      (↑n:Int) - Int.toNat (↑b2:Int))∧∀ (v3:Int), v3=(↑(Mk.wr (fun (k:Nat) ↦ f (match if c=Int.toNat (↑b2:Int) then 0 else Int.toNat (↑b2:Int) with | 0 => k | Nat.succ i => i+1+k)) 32):Int)→∀ (t1:Bool), (t1=if decide (v1≤v2)=true then decide (v3 > (2:Int)) else false)→(t1=true→∀ (v4:Int), v4=IntKind.i64.wrap ((↑b2:Int)+(1:Int))→∃ (x2:Nat), v4=(↑x2:Int)∧((∀ (b3:Nat), b3 < x2→b3+32≤n∧2 < Mk.wrA f
      b3)∧x2≤n)∧n - x2 < n - b2)∧(t1=false→(fb=fb∧fo=fo)∧(sb=sb∧so=so)∧(b=b∧off=off)∧(0=0∧∀ (k2:Nat), k2 < m→true=true)∧∀ (x'1:(Nat × Nat × (Nat × Nat × Int × Bool × Unit) × Int × Eng.OwnD Int × Int × Bool × Int × Int × (Nat × Nat) × Unit) × Int × Unit), x'1=((fb, fo, (sb, so, tk, lk, ()), len, Eng.OwnD.mk b off n c z m cap ez f, pl, op, wg, ms, gv, ()), (↑b2:Int), ())→((0:Int)≤(Prod.snd x'1).1∧(Prod.snd
      x'1).1≤(↑(Eng.OwnD.n ((((((Prod.fst x'1).2).2.2)).2).1)):Int))∧Mk.FD.ok (Prod.fst x'1)∧∀ (y1:Unit), True→((Prod.fst x'1).1=fb∧((Prod.fst x'1).2.1)=fo)∧∀ (v5:Int), v5=(↑(Eng.OwnD.n ((((((Prod.fst x'1).2).2.2)).2).1) - Int.toNat ((Prod.snd x'1).1)):Int)→∃ (x2:Nat), decide (v5≥(32:Int))=decide (32≤n - x2)∧(((Prod.fst x'1).1=fb∧((Prod.fst x'1).2.1)=fo∧false=false∧1≤1∧1≤1∧1≤1)∧(0=0∧((((Prod.fst
      x'1).2.2)).1).1=sb∧(((((Prod.fst x'1).2.2)).1).2).1=so)∧((((Prod.fst x'1).2).2.2)).1=len∧(Eng.OwnD.b ((((((Prod.fst x'1).2).2.2)).2).1)=b∧Eng.OwnD.off ((((((Prod.fst x'1).2).2.2)).2).1)=off∧0=0∧Eng.OwnD.n ((((((Prod.fst x'1).2).2.2)).2).1) - Int.toNat ((Prod.snd x'1).1)=n - x2∧Eng.OwnD.c ((((((Prod.fst x'1).2).2.2)).2).1)=c∧Eng.OwnD.z ((((((Prod.fst x'1).2).2.2)).2).1)=z)∧((((((Prod.fst
      x'1).2).2.2)).2).2).1+(↑(Int.toNat ((Prod.snd x'1).1)):Int)=pl+(↑x2:Int)∧(((((((Prod.fst x'1).2).2.2)).2).2).2).1=op∧((((((((Prod.fst x'1).2).2.2)).2).2).2).2).1=wg∧(((((((((Prod.fst x'1).2).2.2)).2).2).2).2).2).1=ms∧SVeq (SV.fn (Go.Fn.func (67:Go.FuncId)) [] [SV.ptr 900001 ((((((((((((Prod.fst x'1).2).2.2)).2).2).2).2).2).2).1).1) ((((((((((((Prod.fst x'1).2).2.2)).2).2).2).2).2).2).1).2) [PS.elt
      0 1]]) (SV.fn (Go.Fn.func (67:Go.FuncId)) [] [SV.ptr 900001 gv.1 gv.2 [PS.elt 0 1]]))∧((((((Prod.fst x'1).2.2)).1).1=sb∧(((((Prod.fst x'1).2.2)).1).2).1=so∧false=false∧1≤1∧1≤1∧1≤1)∧((((((Prod.fst x'1).2.2)).1).2).2).1=tk∧(((((((Prod.fst x'1).2.2)).1).2).2).2).1=lk)∧((Eng.OwnD.b ((((((Prod.fst x'1).2).2.2)).2).1)=b∧Eng.OwnD.off ((((((Prod.fst x'1).2).2.2)).2).1)=off∧Eng.OwnD.ez ((((((Prod.fst
      x'1).2).2.2)).2).1)=ez∧m≤Eng.OwnD.m ((((((Prod.fst x'1).2).2.2)).2).1)∧m≤cap∧cap≤Eng.OwnD.cap ((((((Prod.fst x'1).2).2.2)).2).1))∧∀ (i1:Nat), i1 < m→(if i1 < Eng.OwnD.n ((((((Prod.fst x'1).2).2.2)).2).1) - Int.toNat ((Prod.snd x'1).1) then Eng.OwnD.f ((((((Prod.fst x'1).2).2.2)).2).1) (i1+Int.toNat ((Prod.snd x'1).1)) else Eng.OwnD.f ((((((Prod.fst x'1).2).2.2)).2).1) i1)=if i1 < n - x2 then f
      (i1+x2) else f i1)∧(∀ (b3:Nat), b3 < x2→b3+32≤n∧2 < Mk.wrA f b3)∧(n < x2+32∨Mk.wrA f x2≤2)∧x2≤n)) (by kernel_rfl) ?_
  try simp only [eq_self, true_and, and_true, Nat.le_refl, implies_true, forall_const, Bool.false_eq_true, Bool.true_eq_false, reduceCtorEq, false_imp_iff, true_imp_iff, Int.toNat_zero, Int.toNat_natCast, Nat.zero_lt_one, Int.le_refl, allGet]
  obtain ⟨⟨⟨h1, h2, h3', h4'⟩, h5, h6, h7, h8, h9⟩, _⟩ := hp
  dsimp only [FD.l, FD.pl, FD.ms] at h1 h2 h3' h4' h5 h6 h7 h8 h9
  refine ⟨⟨0, rfl, fun _ h => absurd h (Nat.not_lt_zero _), Nat.zero_le _⟩, ?_⟩
  rintro k ⟨hk, hkn⟩ v1 hv1 v2 hv2
  have e1 : v1 = k + 32 := by rw [hv1, w64_id (by omega) (by omega)]
  subst e1 hv2
  refine ⟨fun _ => by omega, fun _ => by omega, fun _ => by omega, fun _ => by omega, fun q => ?_, fun q => ?_, fun v3 h3 t1 ht1 => ⟨fun h v4 h4 => ?_, fun h x' hx' => ?_⟩⟩
  · show sh (cutIx c k 0) (n - k) ≤ m
    rw [sh_eq]; unfold cutIx; rw [sh_eq]
    split <;> omega
  · have q := of_decide_eq_true q
    omega
  · have hv3 : (k : Int) + 32 ≤ n → v3 = (wrA f k : Nat) := fun q => by
      rw [h3, wrA]
      refine congrArg (fun x : Nat => (x : Int)) (wr_congr fun i hi => ?_)
      show f (sh (cutIx c k 0) i) = _
      rw [sh_eq]; unfold cutIx; rw [sh_eq, if_neg (by omega), Nat.zero_add]
    have hv : (k : Int) + 32 ≤ n ∧ v3 > 2 := by
      rw [h] at ht1
      by_cases q : decide ((k : Int) + 32 ≤ n) = true
      · rw [if_pos q] at ht1
        exact ⟨of_decide_eq_true q, of_decide_eq_true ht1.symm⟩
      · rw [if_neg q] at ht1; cases ht1
    have := hv3 hv.1
    refine ⟨k + 1, h4.trans (l_succ (by omega)), ⟨fun j hj => ?_, by omega⟩, by omega⟩
    by_cases e : j < k
    · exact hk j e
    · obtain rfl : j = k := by omega
      exact ⟨by omega, by omega⟩
  · have hv : n < k + 32 ∨ wrA f k ≤ 2 := by
      rw [h] at ht1
      by_cases q : decide ((k : Int) + 32 ≤ n) = true
      · rw [if_pos q] at ht1
        have q := of_decide_eq_true q
        have e3 : v3 = (wrA f k : Nat) := by
          rw [h3, wrA]
          refine congrArg (fun x : Nat => (x : Int)) (wr_congr fun i hi => ?_)
          show f (sh (cutIx c k 0) i) = _
          rw [sh_eq]; unfold cutIx; rw [sh_eq, if_neg (by omega), Nat.zero_add]
        have := of_decide_eq_false ht1.symm
        exact .inr (by omega)
      · have q : ¬ ((k : Int) + 32 ≤ n) := by simpa using q
        exact .inl (by omega)
    subst hx'
    dsimp only
    rw [toNat_nat]
    refine ⟨⟨by omega, by omega⟩, ⟨⟨h1, h2, h3', h4'⟩, h5, h6, h7, h8, h9⟩, ⟨rfl, rfl⟩, fun v5 h5' => ⟨k, by rw [h5', Bool.eq_iff_iff, decide_eq_true_iff, decide_eq_true_iff]; omega, ⟨⟨rfl, rfl⟩, ⟨rfl, rfl⟩, rfl, ⟨rfl, rfl, rfl, rfl, rfl⟩, rfl, rfl, rfl, rfl, ⟨rfl, rfl, rfl, fun h => h⟩⟩, ⟨⟨rfl, rfl⟩, rfl, rfl⟩, ⟨⟨rfl, rfl, rfl, Nat.le_refl _, h2, Nat.le_refl _⟩, fun i hi => rfl⟩, hk, hv, hkn⟩⟩
/-! ### examine -/
/-- What is at the place is looked at. -/
def FD.look (d : FD) : FD :=
  if wrA d.l.f 0 ≤ 2 then FD.mk d.1 d.2.1 d.sb d.so d.tk true d.len d.l d.pl true (wrA d.l.f 0 : Nat) 0 d.gv
  else if d.ms + 1 = 3 then FD.mk d.1 d.2.1 d.sb d.so d.tk false d.len d.l d.pl d.op (wrA d.l.f 0 : Nat) (d.ms + 1) d.gv
  else FD.mk d.1 d.2.1 d.sb d.so d.tk d.lk d.len d.l d.pl true (wrA d.l.f 0 : Nat) (d.ms + 1) d.gv
theorem look1 {d : FD} (h : wrA d.l.f 0 ≤ 2) : d.look = FD.mk d.1 d.2.1 d.sb d.so d.tk true d.len d.l d.pl true (wrA d.l.f 0 : Nat) 0 d.gv := if_pos h
theorem look2 {d : FD} (h : ¬ wrA d.l.f 0 ≤ 2) (h' : d.ms + 1 = 3) : d.look = FD.mk d.1 d.2.1 d.sb d.so d.tk false d.len d.l d.pl d.op (wrA d.l.f 0 : Nat) (d.ms + 1) d.gv := (if_neg h).trans (if_pos h')
theorem look3 {d : FD} (h : ¬ wrA d.l.f 0 ≤ 2) (h' : d.ms + 1 ≠ 3) : d.look = FD.mk d.1 d.2.1 d.sb d.so d.tk d.lk d.len d.l d.pl true (wrA d.l.f 0 : Nat) (d.ms + 1) d.gv := (if_neg h).trans (if_neg h')
def exam (d : FD) (y : FD × Bool) : Prop := ∃ k, (if d.lk = true then k = 0 else scan d k) ∧ if (d.adv k).l.n < 32 then y = (d.adv k, false) else y = ((d.adv k).look, true)
def examine := ecU aF (fun x => [x.1.ok, x.1.ms < 3 ∨ x.1.lk = false]) (fun x (y : FD × Bool) => exam x.1 y) (fun x y => (y.1, ())) (fun x y => .bool y.2)
def EE : Env := ES.addE 100 search
theorem EE_ok : EnvOk Tryz.prog EE := ES_ok.addE search_ok
theorem examine_ok : EcOk Tryz.prog 68 examine := by
  refine ecC_run (fun _ => EE_ok) Tryz.func68 rfl (by kernel_rfl) []
    (fun x => []) (fun _ => Nat.le_of_ble_eq_true rfl) (fun ⟨⟨fb, fo, ⟨⟨sb, so, ⟨tk, lk, ()⟩⟩, len, ⟨b, off, n, c, z, m, cap, ez, f⟩, pl, op, wg, ms, gv, ()⟩⟩, ()⟩ hp hw => ?_)
  refine vc_of (q :=
      (fb=fb∧fo=fo)∧(sb=sb∧so=so)∧((!lk)=true→(fb=fb∧fo=fo)∧(sb=sb∧so=so)∧(b=b∧off=off)∧(0=0∧∀ (k1:Nat), k1 < m→true=true)∧∀ (x'1:(Nat × Nat × (Nat × Nat × Int × Bool × Unit) × Int × Eng.OwnD Int × Int × Bool × Int × Int × (Nat × Nat) × Unit) × Unit), x'1=((fb, fo, (sb, so, tk, lk, ()), len, Eng.OwnD.mk b off n c z m cap ez f, pl, op, wg, ms, gv, ()), ())→Mk.FD.ok (Prod.fst x'1)∧∀ (b1:Nat), Mk.scan
      (Prod.fst x'1) b1→∀ (t1:Bool), t1=decide (32≤Eng.OwnD.n ((((((Prod.fst x'1).2).2.2)).2).1) - b1)→∀ (t2:Bool), (t2=if (!lk)=true then !t1 else false)→(t2=false→(Prod.fst x'1).1=fb∧((Prod.fst x'1).2.1)=fo)∧∀ (v1:Int), v1=(↑(Eng.OwnD.n ((((((Prod.fst x'1).2).2.2)).2).1) - b1):Int)→∀ (t3:Bool), (t3=if t2=true then true else decide (v1 < (32:Int)))→(t3=true→∃ (x1:(Nat × Nat × (Nat × Nat × Int × Bool ×
      Unit) × Int × Eng.OwnD Int × Int × Bool × Int × Int × (Nat × Nat) × Unit) × Bool), false=x1.2∧(((Prod.fst x'1).1=x1.1.1∧((Prod.fst x'1).2.1)=x1.1.2.1∧false=false∧1≤1∧1≤1∧1≤1)∧(0=0∧((((Prod.fst x'1).2.2)).1).1=(x1.1.2.2.1).1∧(((((Prod.fst x'1).2.2)).1).2).1=((x1.1.2.2.1).2).1)∧((((Prod.fst x'1).2).2.2)).1=(x1.1.2.2.2).1∧(Eng.OwnD.b ((((((Prod.fst x'1).2).2.2)).2).1)=Eng.OwnD.b
      (((x1.1.2.2.2).2).1)∧Eng.OwnD.off ((((((Prod.fst x'1).2).2.2)).2).1)=Eng.OwnD.off (((x1.1.2.2.2).2).1)∧0=0∧Eng.OwnD.n ((((((Prod.fst x'1).2).2.2)).2).1) - b1=Eng.OwnD.n (((x1.1.2.2.2).2).1)∧Eng.OwnD.c ((((((Prod.fst x'1).2).2.2)).2).1)=Eng.OwnD.c (((x1.1.2.2.2).2).1)∧Eng.OwnD.z ((((((Prod.fst x'1).2).2.2)).2).1)=Eng.OwnD.z (((x1.1.2.2.2).2).1))∧((((((Prod.fst
      x'1).2).2.2)).2).2).1+(↑b1:Int)=(((x1.1.2.2.2).2).2).1∧(((((((Prod.fst x'1).2).2.2)).2).2).2).1=((((x1.1.2.2.2).2).2).2).1∧((((((((Prod.fst x'1).2).2.2)).2).2).2).2).1=(((((x1.1.2.2.2).2).2).2).2).1∧(((((((((Prod.fst x'1).2).2.2)).2).2).2).2).2).1=((((((x1.1.2.2.2).2).2).2).2).2).1∧SVeq (SV.fn (Go.Fn.func (67:Go.FuncId)) [] [SV.ptr 900001 ((((((((((((Prod.fst x'1).2).2.2)).2).2).2).2).2).2).1).1)
      ((((((((((((Prod.fst x'1).2).2.2)).2).2).2).2).2).2).1).2) [PS.elt 0 1]]) (SV.fn (Go.Fn.func (67:Go.FuncId)) [] [SV.ptr 900001 (((((((((x1.1.2.2.2).2).2).2).2).2).2).1).1) (((((((((x1.1.2.2.2).2).2).2).2).2).2).1).2) [PS.elt 0 1]]))∧((((((Prod.fst x'1).2.2)).1).1=(x1.1.2.2.1).1∧(((((Prod.fst x'1).2.2)).1).2).1=((x1.1.2.2.1).2).1∧false=false∧1≤1∧1≤1∧1≤1)∧((((((Prod.fst
      x'1).2.2)).1).2).2).1=(((x1.1.2.2.1).2).2).1∧(((((((Prod.fst x'1).2.2)).1).2).2).2).1=((((x1.1.2.2.1).2).2).2).1)∧((Eng.OwnD.b ((((((Prod.fst x'1).2).2.2)).2).1)=Eng.OwnD.b (((x1.1.2.2.2).2).1)∧Eng.OwnD.off ((((((Prod.fst x'1).2).2.2)).2).1)=Eng.OwnD.off (((x1.1.2.2.2).2).1)∧Eng.OwnD.ez ((((((Prod.fst x'1).2).2.2)).2).1)=Eng.OwnD.ez (((x1.1.2.2.2).2).1)∧Eng.OwnD.m (((x1.1.2.2.2).2).1)≤Eng.OwnD.m
      ((((((Prod.fst x'1).2).2.2)).2).1)∧Eng.OwnD.m (((x1.1.2.2.2).2).1)≤Eng.OwnD.cap (((x1.1.2.2.2).2).1)∧Eng.OwnD.cap (((x1.1.2.2.2).2).1)≤Eng.OwnD.cap ((((((Prod.fst x'1).2).2.2)).2).1))∧∀ (i1:Nat), i1 < Eng.OwnD.m (((x1.1.2.2.2).2).1)→(if i1 < Eng.OwnD.n ((((((Prod.fst x'1).2).2.2)).2).1) - b1 then Eng.OwnD.f ((((((Prod.fst x'1).2).2.2)).2).1) (i1+b1) else Eng.OwnD.f ((((((Prod.fst
      x'1).2).2.2)).2).1) i1)=Eng.OwnD.f (((x1.1.2.2.2).2).1) i1)∧∃ (x2:Nat), (if lk=true then x2=0 else Mk.scan (fb, fo, (sb, so, tk, lk, ()), len, Eng.OwnD.mk b off n c z m cap ez f, pl, op, wg, ms, gv, ()) x2)∧if n - x2 < 32 then x1=(Mk.FD.adv (fb, fo, (sb, so, tk, lk, ()), len, Eng.OwnD.mk b off n c z m cap ez f, pl, op, wg, ms, gv, ()) x2, false) else x1=(Mk.FD.look (Mk.FD.adv (fb, fo, (sb, so, tk,
      lk, ()), len, Eng.OwnD.mk b off n c z m cap ez f, pl, op, wg, ms, gv, ()) x2), true))∧(t3=false→((Prod.fst x'1).1=fb∧((Prod.fst x'1).2.1)=fo)∧Eng.OwnD.n ((((((Prod.fst x'1).2).2.2)).2).1) - b1≤Eng.OwnD.m ((((((Prod.fst x'1).2).2.2)).2).1)∧(∀ (k2:Nat), k2 < Eng.OwnD.n ((((((Prod.fst x'1).2).2.2)).2).1) - b1→true=true)∧(Eng.OwnD.b ((((((Prod.fst x'1).2).2.2)).2).1)=Eng.OwnD.b ((((((Prod.fst
      x'1).2).2.2)).2).1)∧Eng.OwnD.off ((((((Prod.fst x'1).2).2.2)).2).1)=Eng.OwnD.off ((((((Prod.fst x'1).2).2.2)).2).1))∧32≤Eng.OwnD.n ((((((Prod.fst x'1).2).2.2)).2).1) - b1∧∀ (v2:Int), v2=(↑(Mk.wr (fun (k:Nat) ↦ if k < Eng.OwnD.n ((((((Prod.fst x'1).2).2.2)).2).1) - b1 then Eng.OwnD.f ((((((Prod.fst x'1).2).2.2)).2).1) (k+b1) else Eng.OwnD.f ((((((Prod.fst x'1).2).2.2)).2).1) k) 32):Int)→((Prod.fst
      x'1).1=fb∧((Prod.fst x'1).2.1)=fo)∧((Prod.fst x'1).1=fb∧((Prod.fst x'1).2.1)=fo)∧(decide (v2≤(2:Int))=true→((Prod.fst x'1).1=fb∧((Prod.fst x'1).2.1)=fo)∧(((((Prod.fst x'1).2.2)).1).1=((((Prod.fst x'1).2.2)).1).1∧(((((Prod.fst x'1).2.2)).1).2).1=(((((Prod.fst x'1).2.2)).1).2).1)∧((Prod.fst x'1).1=fb∧((Prod.fst x'1).2.1)=fo)∧((Prod.fst x'1).1=fb∧((Prod.fst x'1).2.1)=fo)∧∃ (x3:(Nat × Nat × (Nat × Nat
      × Int × Bool × Unit) × Int × Eng.OwnD Int × Int × Bool × Int × Int × (Nat × Nat) × Unit) × Bool), true=x3.2∧(((Prod.fst x'1).1=x3.1.1∧((Prod.fst x'1).2.1)=x3.1.2.1∧false=false∧1≤1∧1≤1∧1≤1)∧(0=0∧((((Prod.fst x'1).2.2)).1).1=(x3.1.2.2.1).1∧(((((Prod.fst x'1).2.2)).1).2).1=((x3.1.2.2.1).2).1)∧((((Prod.fst x'1).2).2.2)).1=(x3.1.2.2.2).1∧(Eng.OwnD.b ((((((Prod.fst x'1).2).2.2)).2).1)=Eng.OwnD.b
      (((x3.1.2.2.2).2).1)∧Eng.OwnD.off ((((((Prod.fst x'1).2).2.2)).2).1)=Eng.OwnD.off (((x3.1.2.2.2).2).1)∧0=0∧Eng.OwnD.n ((((((Prod.fst x'1).2).2.2)).2).1) - b1=Eng.OwnD.n (((x3.1.2.2.2).2).1)∧Eng.OwnD.c ((((((Prod.fst x'1).2).2.2)).2).1)=Eng.OwnD.c (((x3.1.2.2.2).2).1)∧Eng.OwnD.z ((((((Prod.fst x'1).2).2.2)).2).1)=Eng.OwnD.z (((x3.1.2.2.2).2).1))∧((((((Prod.fst
      x'1).2).2.2)).2).2).1+(↑b1:Int)=(((x3.1.2.2.2).2).2).1∧true=((((x3.1.2.2.2).2).2).2).1∧v2=(((((x3.1.2.2.2).2).2).2).2).1∧(0:Int)=((((((x3.1.2.2.2).2).2).2).2).2).1∧SVeq (SV.fn (Go.Fn.func (67:Go.FuncId)) [] [SV.ptr 900001 ((((((((((((Prod.fst x'1).2).2.2)).2).2).2).2).2).2).1).1) ((((((((((((Prod.fst x'1).2).2.2)).2).2).2).2).2).2).1).2) [PS.elt 0 1]]) (SV.fn (Go.Fn.func (67:Go.FuncId)) [] [SV.ptr
      900001 (((((((((x3.1.2.2.2).2).2).2).2).2).2).1).1) (((((((((x3.1.2.2.2).2).2).2).2).2).2).1).2) [PS.elt 0 1]]))∧((((((Prod.fst x'1).2.2)).1).1=(x3.1.2.2.1).1∧(((((Prod.fst x'1).2.2)).1).2).1=((x3.1.2.2.1).2).1∧false=false∧1≤1∧1≤1∧1≤1)∧((((((Prod.fst x'1).2.2)).1).2).2).1=(((x3.1.2.2.1).2).2).1∧true=((((x3.1.2.2.1).2).2).2).1)∧((Eng.OwnD.b ((((((Prod.fst x'1).2).2.2)).2).1)=Eng.OwnD.b
      (((x3.1.2.2.2).2).1)∧Eng.OwnD.off ((((((Prod.fst x'1).2).2.2)).2).1)=Eng.OwnD.off (((x3.1.2.2.2).2).1)∧Eng.OwnD.ez ((((((Prod.fst x'1).2).2.2)).2).1)=Eng.OwnD.ez (((x3.1.2.2.2).2).1)∧Eng.OwnD.m (((x3.1.2.2.2).2).1)≤Eng.OwnD.m ((((((Prod.fst x'1).2).2.2)).2).1)∧Eng.OwnD.m (((x3.1.2.2.2).2).1)≤Eng.OwnD.cap (((x3.1.2.2.2).2).1)∧Eng.OwnD.cap (((x3.1.2.2.2).2).1)≤Eng.OwnD.cap ((((((Prod.fst
      x'1).2).2.2)).2).1))∧∀ (i2:Nat), i2 < Eng.OwnD.m (((x3.1.2.2.2).2).1)→(if i2 < Eng.OwnD.n ((((((Prod.fst x'1).2).2.2)).2).1) - b1 then Eng.OwnD.f ((((((Prod.fst x'1).2).2.2)).2).1) (i2+b1) else Eng.OwnD.f ((((((Prod.fst x'1).2).2.2)).2).1) i2)=Eng.OwnD.f (((x3.1.2.2.2).2).1) i2)∧∃ (x4:Nat), (if lk=true then x4=0 else Mk.scan (fb, fo, (sb, so, tk, lk, ()), len, Eng.OwnD.mk b off n c z m cap ez f,
      pl, op, wg, ms, gv, ()) x4)∧if n - x4 < 32 then x3=(Mk.FD.adv (fb, fo, (sb, so, tk, lk, ()), len, Eng.OwnD.mk b off n c z m cap ez f, pl, op, wg, ms, gv, ()) x4, false) else x3=(Mk.FD.look (Mk.FD.adv (fb, fo, (sb, so, tk, lk, ()), len, Eng.OwnD.mk b off n c z m cap ez f, pl, op, wg, ms, gv, ()) x4), true))∧(decide (v2≤(2:Int))=false→((Prod.fst x'1).1=fb∧((Prod.fst x'1).2.1)=fo)∧∀ (v3:Int),
      v3=IntKind.i64.wrap ((((((((((Prod.fst x'1).2).2.2)).2).2).2).2).2).1+(1:Int))→((Prod.fst x'1).1=fb∧((Prod.fst x'1).2.1)=fo)∧((Prod.fst x'1).1=fb∧((Prod.fst x'1).2.1)=fo)∧((v3==(3:Int))=true→((Prod.fst x'1).1=fb∧((Prod.fst x'1).2.1)=fo)∧(((((Prod.fst x'1).2.2)).1).1=((((Prod.fst x'1).2.2)).1).1∧(((((Prod.fst x'1).2.2)).1).2).1=(((((Prod.fst x'1).2.2)).1).2).1)∧∃ (x5:(Nat × Nat × (Nat × Nat × Int ×
      Bool × Unit) × Int × Eng.OwnD Int × Int × Bool × Int × Int × (Nat × Nat) × Unit) × Bool), true=x5.2∧(((Prod.fst x'1).1=x5.1.1∧((Prod.fst x'1).2.1)=x5.1.2.1∧false=false∧1≤1∧1≤1∧1≤1)∧(0=0∧((((Prod.fst x'1).2.2)).1).1=(x5.1.2.2.1).1∧(((((Prod.fst x'1).2.2)).1).2).1=((x5.1.2.2.1).2).1)∧((((Prod.fst x'1).2).2.2)).1=(x5.1.2.2.2).1∧(Eng.OwnD.b ((((((Prod.fst x'1).2).2.2)).2).1)=Eng.OwnD.b
      (((x5.1.2.2.2).2).1)∧Eng.OwnD.off ((((((Prod.fst x'1).2).2.2)).2).1)=Eng.OwnD.off (((x5.1.2.2.2).2).1)∧0=0∧Eng.OwnD.n ((((((Prod.fst x'1).2).2.2)).2).1) - b1=Eng.OwnD.n (((x5.1.2.2.2).2).1)∧Eng.OwnD.c ((((((Prod.fst x'1).2).2.2)).2).1)=Eng.OwnD.c (((x5.1.2.2.2).2).1)∧Eng.OwnD.z ((((((Prod.fst x'1).2).2.2)).2).1)=Eng.OwnD.z (((x5.1.2.2.2).2).1))∧((((((Prod.fst
      x'1).2).2.2)).2).2).1+(↑b1:Int)=(((x5.1.2.2.2).2).2).1∧(((((((Prod.fst x'1).2).2.2)).2).2).2).1=((((x5.1.2.2.2).2).2).2).1∧v2=(((((x5.1.2.2.2).2).2).2).2).1∧v3=((((((x5.1.2.2.2).2).2).2).2).2).1∧SVeq (SV.fn (Go.Fn.func (67:Go.FuncId)) [] [SV.ptr 900001 ((((((((((((Prod.fst x'1).2).2.2)).2).2).2).2).2).2).1).1) ((((((((((((Prod.fst x'1).2).2.2)).2).2).2).2).2).2).1).2) [PS.elt 0 1]]) (SV.fn
      (Go.Fn.func (67:Go.FuncId)) [] [SV.ptr 900001 (((((((((x5.1.2.2.2).2).2).2).2).2).2).1).1) (((((((((x5.1.2.2.2).2).2).2).2).2).2).1).2) [PS.elt 0 1]]))∧((((((Prod.fst x'1).2.2)).1).1=(x5.1.2.2.1).1∧(((((Prod.fst x'1).2.2)).1).2).1=((x5.1.2.2.1).2).1∧false=false∧1≤1∧1≤1∧1≤1)∧((((((Prod.fst x'1).2.2)).1).2).2).1=(((x5.1.2.2.1).2).2).1∧false=((((x5.1.2.2.1).2).2).2).1)∧((Eng.OwnD.b ((((((Prod.fst
      x'1).2).2.2)).2).1)=Eng.OwnD.b (((x5.1.2.2.2).2).1)∧Eng.OwnD.off ((((((Prod.fst x'1).2).2.2)).2).1)=Eng.OwnD.off (((x5.1.2.2.2).2).1)∧Eng.OwnD.ez ((((((Prod.fst x'1).2).2.2)).2).1)=Eng.OwnD.ez (((x5.1.2.2.2).2).1)∧Eng.OwnD.m (((x5.1.2.2.2).2).1)≤Eng.OwnD.m ((((((Prod.fst x'1).2).2.2)).2).1)∧Eng.OwnD.m (((x5.1.2.2.2).2).1)≤Eng.OwnD.cap (((x5.1.2.2.2).2).1)∧Eng.OwnD.cap
      (((x5.1.2.2.2).2).1)≤Eng.OwnD.cap ((((((Prod.fst x'1).2).2.2)).2).1))∧∀ (i3:Nat), i3 < Eng.OwnD.m (((x5.1.2.2.2).2).1)→(if i3 < Eng.OwnD.n ((((((Prod.fst x'1).2).2.2)).2).1) - b1 then Eng.OwnD.f ((((((Prod.fst x'1).2).2.2)).2).1) (i3+b1) else Eng.OwnD.f ((((((Prod.fst x'1).2).2.2)).2).1) i3)=Eng.OwnD.f (((x5.1.2.2.2).2).1) i3)∧∃ (x6:Nat), (if lk=true then x6=0 else Mk.scan (fb, fo, (sb, so, tk, lk,
      ()), len, Eng.OwnD.mk b off n c z m cap ez f, pl, op, wg, ms, gv, ()) x6)∧if n - x6 < 32 then x5=(Mk.FD.adv (fb, fo, (sb, so, tk, lk, ()), len, Eng.OwnD.mk b off n c z m cap ez f, pl, op, wg, ms, gv, ()) x6, false) else x5=(Mk.FD.look (Mk.FD.adv (fb, fo, (sb, so, tk, lk, ()), len, Eng.OwnD.mk b off n c z m cap ez f, pl, op, wg, ms, gv, ()) x6), true))∧((v3==(3:Int))=false→((Prod.fst
      x'1).1=fb∧((Prod.fst x'1).2.1)=fo)∧∃ (x7:(Nat × Nat × (Nat × Nat × Int × Bool × Unit) × Int × Eng.OwnD Int × Int × Bool × Int × Int × (Nat × Nat) × Unit) × Bool), true=x7.2∧(((Prod.fst x'1).1=x7.1.1∧((Prod.fst x'1).2.1)=x7.1.2.1∧false=false∧1≤1∧1≤1∧1≤1)∧(0=0∧((((Prod.fst x'1).2.2)).1).1=(x7.1.2.2.1).1∧(((((Prod.fst x'1).2.2)).1).2).1=((x7.1.2.2.1).2).1)∧((((Prod.fst
      x'1).2).2.2)).1=(x7.1.2.2.2).1∧(Eng.OwnD.b ((((((Prod.fst x'1).2).2.2)).2).1)=Eng.OwnD.b (((x7.1.2.2.2).2).1)∧Eng.OwnD.off ((((((Prod.fst x'1).2).2.2)).2).1)=Eng.OwnD.off (((x7.1.2.2.2).2).1)∧0=0∧Eng.OwnD.n ((((((Prod.fst x'1).2).2.2)).2).1) - b1=Eng.OwnD.n (((x7.1.2.2.2).2).1)∧Eng.OwnD.c ((((((Prod.fst x'1).2).2.2)).2).1)=Eng.OwnD.c (((x7.1.2.2.2).2).1)∧Eng.OwnD.z ((((((Prod.fst
      x'1).2).2.2)).2).1)=Eng.OwnD.z (((x7.1.2.2.2).2).1))∧((((((Prod.fst x'1).2).2.2)).2).2).1+(↑b1:Int)=(((x7.1.2.2.2).2).2).1∧true=((((x7.1.2.2.2).2).2).2).1∧v2=(((((x7.1.2.2.2).2).2).2).2).1∧v3=((((((x7.1.2.2.2).2).2).2).2).2).1∧SVeq (SV.fn (Go.Fn.func (67:Go.FuncId)) [] [SV.ptr 900001 ((((((((((((Prod.fst x'1).2).2.2)).2).2).2).2).2).2).1).1) ((((((((((((Prod.fst
      x'1).2).2.2)).2).2).2).2).2).2).1).2) [PS.elt 0 1]]) (SV.fn (Go.Fn.func (67:Go.FuncId)) [] [SV.ptr 900001 (((((((((x7.1.2.2.2).2).2).2).2).2).2).1).1) (((((((((x7.1.2.2.2).2).2).2).2).2).2).1).2) [PS.elt 0 1]]))∧((((((Prod.fst x'1).2.2)).1).1=(x7.1.2.2.1).1∧(((((Prod.fst x'1).2.2)).1).2).1=((x7.1.2.2.1).2).1∧false=false∧1≤1∧1≤1∧1≤1)∧((((((Prod.fst
      x'1).2.2)).1).2).2).1=(((x7.1.2.2.1).2).2).1∧(((((((Prod.fst x'1).2.2)).1).2).2).2).1=((((x7.1.2.2.1).2).2).2).1)∧((Eng.OwnD.b ((((((Prod.fst x'1).2).2.2)).2).1)=Eng.OwnD.b (((x7.1.2.2.2).2).1)∧Eng.OwnD.off ((((((Prod.fst x'1).2).2.2)).2).1)=Eng.OwnD.off (((x7.1.2.2.2).2).1)∧Eng.OwnD.ez ((((((Prod.fst x'1).2).2.2)).2).1)=Eng.OwnD.ez (((x7.1.2.2.2).2).1)∧Eng.OwnD.m (((x7.1.2.2.2).2).1)≤Eng.OwnD.m
      ((((((Prod.fst x'1).2).2.2)).2).1)∧Eng.OwnD.m (((x7.1.2.2.2).2).1)≤Eng.OwnD.cap (((x7.1.2.2.2).2).1)∧Eng.OwnD.cap (((x7.1.2.2.2).2).1)≤Eng.OwnD.cap ((((((Prod.fst x'1).2).2.2)).2).1))∧∀ (i4:Nat), i4 < Eng.OwnD.m (((x7.1.2.2.2).2).1)→(if i4 < Eng.OwnD.n ((((((Prod.fst x'1).2).2.2)).2).1) - b1 then Eng.OwnD.f ((((((Prod.fst x'1).2).2.2)).2).1) (i4+b1) else Eng.OwnD.f ((((((Prod.fst
      x'1).2).2.2)).2).1) i4)=Eng.OwnD.f (((x7.1.2.2.2).2).1) i4)∧∃ (x8:Nat), (if lk=true then x8=0 else Mk.scan (fb, fo, (sb, so, tk, lk, ()), len, Eng.OwnD.mk b off n c z m cap ez f, pl, op, wg, ms, gv, ()) x8)∧if n - x8 < 32 then x7=(Mk.FD.adv (fb, fo, (sb, so, tk, lk, ()), len, Eng.OwnD.mk b off n c z m cap ez f, pl, op, wg, ms, gv, ()) x8, false) else x7=(Mk.FD.look (Mk.FD.adv (fb, fo, (sb, so, tk,
      lk, ()), len, Eng.OwnD.mk b off n c z m cap ez f, pl, op, wg, ms, gv, ()) x8), true)))))∧(((!lk)=true→False)→∀ (t1:Bool), (t1=if (!lk)=true then !false else false)→(t1=false→fb=fb∧fo=fo)∧∀ (v1:Int), v1=(↑n:Int)→∀ (t2:Bool), (t2=if t1=true then true else decide (v1 < (32:Int)))→(t2=true→∃ (x1:(Nat × Nat × (Nat × Nat × Int × Bool × Unit) × Int × Eng.OwnD Int × Int × Bool × Int × Int × (Nat × Nat) ×
      Unit) × Bool), false=x1.2∧((fb=x1.1.1∧fo=x1.1.2.1∧false=false∧1≤1∧1≤1∧1≤1)∧(0=0∧sb=(x1.1.2.2.1).1∧so=((x1.1.2.2.1).2).1)∧len=(x1.1.2.2.2).1∧(b=Eng.OwnD.b (((x1.1.2.2.2).2).1)∧off=Eng.OwnD.off (((x1.1.2.2.2).2).1)∧0=0∧n=Eng.OwnD.n (((x1.1.2.2.2).2).1)∧c=Eng.OwnD.c (((x1.1.2.2.2).2).1)∧z=Eng.OwnD.z
      (((x1.1.2.2.2).2).1))∧pl=(((x1.1.2.2.2).2).2).1∧op=((((x1.1.2.2.2).2).2).2).1∧wg=(((((x1.1.2.2.2).2).2).2).2).1∧ms=((((((x1.1.2.2.2).2).2).2).2).2).1∧SVeq (SV.fn (Go.Fn.func (67:Go.FuncId)) [] [SV.ptr 900001 gv.1 gv.2 [PS.elt 0 1]]) (SV.fn (Go.Fn.func (67:Go.FuncId)) [] [SV.ptr 900001 (((((((((x1.1.2.2.2).2).2).2).2).2).2).1).1) (((((((((x1.1.2.2.2).2).2).2).2).2).2).1).2) [PS.elt 0
      1]]))∧((sb=(x1.1.2.2.1).1∧so=((x1.1.2.2.1).2).1∧false=false∧1≤1∧1≤1∧1≤1)∧tk=(((x1.1.2.2.1).2).2).1∧lk=((((x1.1.2.2.1).2).2).2).1)∧((b=Eng.OwnD.b (((x1.1.2.2.2).2).1)∧off=Eng.OwnD.off (((x1.1.2.2.2).2).1)∧ez=Eng.OwnD.ez (((x1.1.2.2.2).2).1)∧Eng.OwnD.m (((x1.1.2.2.2).2).1)≤m∧Eng.OwnD.m (((x1.1.2.2.2).2).1)≤Eng.OwnD.cap (((x1.1.2.2.2).2).1)∧Eng.OwnD.cap (((x1.1.2.2.2).2).1)≤cap)∧∀ (i1:Nat), i1 <
      Eng.OwnD.m (((x1.1.2.2.2).2).1)→f i1=Eng.OwnD.f (((x1.1.2.2.2).2).1) i1)∧∃ (x2:Nat), (if lk=true then x2=0 else Mk.scan (fb, fo, (sb, so, tk, lk, ()), len, Eng.OwnD.mk b off n c z m cap ez f, pl, op, wg, ms, gv, ()) x2)∧if n - x2 < 32 then x1=(Mk.FD.adv (fb, fo, (sb, so, tk, lk, ()), len, Eng.OwnD.mk b off n c z m cap ez f, pl, op, wg, ms, gv, ()) x2, false) else x1=(Mk.FD.look (Mk.FD.adv (fb, fo,
      (sb, so, tk, lk, ()), len, Eng.OwnD.mk b off n c z m cap ez f, pl, op, wg, ms, gv, ()) x2), true))∧(t2=false→(fb=fb∧fo=fo)∧n≤m∧(∀ (k2:Nat), k2 < n→true=true)∧(b=b∧off=off)∧32≤n∧∀ (v2:Int), v2=(↑(Mk.wr f 32):Int)→(fb=fb∧fo=fo)∧(fb=fb∧fo=fo)∧(decide (v2≤(2:Int))=true→(fb=fb∧fo=fo)∧(sb=sb∧so=so)∧(fb=fb∧fo=fo)∧(fb=fb∧fo=fo)∧∃ (x3:(Nat × Nat × (Nat × Nat × Int × Bool × Unit) × Int × Eng.OwnD Int × Int ×
      Bool × Int × Int × (Nat × Nat) × Unit) × Bool), true=x3.2∧((fb=x3.1.1∧fo=x3.1.2.1∧false=false∧1≤1∧1≤1∧1≤1)∧(0=0∧sb=(x3.1.2.2.1).1∧so=((x3.1.2.2.1).2).1)∧len=(x3.1.2.2.2).1∧(b=Eng.OwnD.b (((x3.1.2.2.2).2).1)∧off=Eng.OwnD.off (((x3.1.2.2.2).2).1)∧0=0∧n=Eng.OwnD.n (((x3.1.2.2.2).2).1)∧c=Eng.OwnD.c (((x3.1.2.2.2).2).1)∧z=Eng.OwnD.z
      (((x3.1.2.2.2).2).1))∧pl=(((x3.1.2.2.2).2).2).1∧true=((((x3.1.2.2.2).2).2).2).1∧v2=(((((x3.1.2.2.2).2).2).2).2).1∧(0:Int)=((((((x3.1.2.2.2).2).2).2).2).2).1∧SVeq (SV.fn (Go.Fn.func (67:Go.FuncId)) [] [SV.ptr 900001 gv.1 gv.2 [PS.elt 0 1]]) (SV.fn (Go.Fn.func (67:Go.FuncId)) [] [SV.ptr 900001 (((((((((x3.1.2.2.2).2).2).2).2).2).2).1).1) (((((((((x3.1.2.2.2).2).2).2).2).2).2).1).2) [PS.elt 0
      1]]))∧((sb=(x3.1.2.2.1).1∧so=((x3.1.2.2.1).2).1∧false=false∧1≤1∧1≤1∧1≤1)∧tk=(((x3.1.2.2.1).2).2).1∧true=((((x3.1.2.2.1).2).2).2).1)∧((b=Eng.OwnD.b (((x3.1.2.2.2).2).1)∧off=Eng.OwnD.off (((x3.1.2.2.2).2).1)∧ez=Eng.OwnD.ez (((x3.1.2.2.2).2).1)∧Eng.OwnD.m (((x3.1.2.2.2).2).1)≤m∧Eng.OwnD.m (((x3.1.2.2.2).2).1)≤Eng.OwnD.cap (((x3.1.2.2.2).2).1)∧Eng.OwnD.cap (((x3.1.2.2.2).2).1)≤cap)∧∀ (i2:Nat), i2 <
      Eng.OwnD.m (((x3.1.2.2.2).2).1)→f i2=Eng.OwnD.f (((x3.1.2.2.2).2).1) i2)∧∃ (x4:Nat), (if lk=true then x4=0 else Mk.scan (fb, fo, (sb, so, tk, lk, ()), len, Eng.OwnD.mk b off n c z m cap ez f, pl, op, wg, ms, gv, ()) x4)∧if n - x4 < 32 then x3=(Mk.FD.adv (fb, fo, (sb, so, tk, lk, ()), len, Eng.OwnD.mk b off n c z m cap ez f, pl, op, wg, ms, gv, ()) x4, false) else x3=(Mk.FD.look (Mk.FD.adv (fb, fo,
      (sb, so, tk, lk, ()), len, Eng.OwnD.mk b off n c z m cap ez f, pl, op, wg, ms, gv, ()) x4), true))∧(decide (v2≤(2:Int))=false→(fb=fb∧fo=fo)∧∀ (v3:Int), v3=IntKind.i64.wrap (ms+(1:Int))→(fb=fb∧fo=fo)∧(fb=fb∧fo=fo)∧((v3==(3:Int))=true→(fb=fb∧fo=fo)∧(sb=sb∧so=so)∧∃ (x5:(Nat × Nat × (Nat × Nat × Int × Bool × Unit) × Int × Eng.OwnD Int × Int × Bool × Int × Int × (Nat × Nat) × Unit) × Bool),
      true=x5.2∧((fb=x5.1.1∧fo=x5.1.2.1∧false=false∧1≤1∧1≤1∧1≤1)∧(0=0∧sb=(x5.1.2.2.1).1∧so=((x5.1.2.2.1).2).1)∧len=(x5.1.2.2.2).1∧(b=Eng.OwnD.b (((x5.1.2.2.2).2).1)∧off=Eng.OwnD.off (((x5.1.2.2.2).2).1)∧0=0∧n=Eng.OwnD.n (((x5.1.2.2.2).2).1)∧c=Eng.OwnD.c (((x5.1.2.2.2).2).1)∧z=Eng.OwnD.z
      (((x5.1.2.2.2).2).1))∧pl=(((x5.1.2.2.2).2).2).1∧op=((((x5.1.2.2.2).2).2).2).1∧v2=(((((x5.1.2.2.2).2).2).2).2).1∧v3=((((((x5.1.2.2.2).2).2).2).2).2).1∧SVeq (SV.fn (Go.Fn.func (67:Go.FuncId)) [] [SV.ptr 900001 gv.1 gv.2 [PS.elt 0 1]]) (SV.fn (Go.Fn.func (67:Go.FuncId)) [] [SV.ptr 900001 (((((((((x5.1.2.2.2).2).2).2).2).2).2).1).1) (((((((((x5.1.2.2.2).2).2).2).2).2).2).1).2) [PS.elt 0
      1]]))∧((sb=(x5.1.2.2.1).1∧so=((x5.1.2.2.1).2).1∧false=false∧1≤1∧1≤1∧1≤1)∧tk=(((x5.1.2.2.1).2).2).1∧false=((((x5.1.2.2.1).2).2).2).1)∧((b=Eng.OwnD.b (((x5.1.2.2.2).2).1)∧off=Eng.OwnD.off (((x5.1.2.2.2).2).1)∧ez=Eng.OwnD.ez (((x5.1.2.2.2).2).1)∧Eng.OwnD.m (((x5.1.2.2.2).2).1)≤m∧Eng.OwnD.m (((x5.1.2.2.2).2).1)≤Eng.OwnD.cap (((x5.1.2.2.2).2).1)∧Eng.OwnD.cap (((x5.1.2.2.2).2).1)≤cap)∧∀ (i3:Nat), i3 <
      Eng.OwnD.m (((x5.1.2.2.2).2).1)→f i3=Eng.OwnD.f (((x5.1.2.2.2).2).1) i3)∧∃ (x6:Nat), (if lk=true then x6=0 else Mk.scan (fb, fo, (sb, so, tk, lk, ()), len, Eng.OwnD.mk b off n c z m cap ez f, pl, op, wg, ms, gv, ()) x6)∧if n - x6 < 32 then x5=(Mk.FD.adv (fb, fo, (sb, so, tk, lk, ()), len, Eng.OwnD.mk b off n c z m cap ez f, pl, op, wg, ms, gv, ()) x6, false) else x5=(Mk.FD.look (Mk.FD.adv (fb, fo,
      (sb, so, tk, lk, ()), len, Eng.OwnD.mk b off n c z m cap ez f, pl, op, wg, ms, gv, ()) x6), true))∧((v3==(3:Int))=false→(fb=fb∧fo=fo)∧∃ (x7:(Nat × Nat × (Nat × Nat × Int × Bool × Unit) × Int × Eng.OwnD Int × Int × Bool × Int × Int × (Nat × Nat) × Unit) × Bool), true=x7.2∧((fb=x7.1.1∧fo=x7.1.2.1∧false=false∧1≤1∧1≤1∧1≤1)∧(0=0∧sb=(x7.1.2.2.1).1∧so=((x7.1.2.2.1).2).1)∧len=(x7.1.2.2.2).1∧(b=Eng.OwnD.b
      (((x7.1.2.2.2).2).1)∧off=Eng.OwnD.off (((x7.1.2.2.2).2).1)∧0=0∧n=Eng.OwnD.n (((x7.1.2.2.2).2).1)∧c=Eng.OwnD.c (((x7.1.2.2.2).2).1)∧z=Eng.OwnD.z (((x7.1.2.2.2).2).1))∧pl=(((x7.1.2.2.2).2).2).1∧true=((((x7.1.2.2.2).2).2).2).1∧v2=(((((x7.1.2.2.2).2).2).2).2).1∧v3=((((((x7.1.2.2.2).2).2).2).2).2).1∧SVeq (SV.fn (Go.Fn.func (67:Go.FuncId)) [] [SV.ptr 900001 gv.1 gv.2 [PS.elt 0 1]]) (SV.fn (Go.Fn.func
      (67:Go.FuncId)) [] [SV.ptr 900001 (((((((((x7.1.2.2.2).2).2).2).2).2).2).1).1) (((((((((x7.1.2.2.2).2).2).2).2).2).2).1).2) [PS.elt 0 1]]))∧((sb=(x7.1.2.2.1).1∧so=((x7.1.2.2.1).2).1∧false=false∧1≤1∧1≤1∧1≤1)∧tk=(((x7.1.2.2.1).2).2).1∧lk=((((x7.1.2.2.1).2).2).2).1)∧((b=Eng.OwnD.b (((x7.1.2.2.2).2).1)∧off=Eng.OwnD.off (((x7.1.2.2.2).2).1)∧ez=Eng.OwnD.ez (((x7.1.2.2.2).2).1)∧Eng.OwnD.m
      (((x7.1.2.2.2).2).1)≤m∧Eng.OwnD.m (((x7.1.2.2.2).2).1)≤Eng.OwnD.cap (((x7.1.2.2.2).2).1)∧Eng.OwnD.cap (((x7.1.2.2.2).2).1)≤cap)∧∀ (i4:Nat), i4 < Eng.OwnD.m (((x7.1.2.2.2).2).1)→f i4=Eng.OwnD.f (((x7.1.2.2.2).2).1) i4)∧∃ (x8:Nat), (if lk=true then x8=0 else Mk.scan (fb, fo, (sb, so, tk, lk, ()), len, Eng.OwnD.mk b off n c z m cap ez f, pl, op, wg, ms, gv, ()) x8)∧if n - x8 < 32 then x7=(Mk.FD.adv
      (fb, fo, (sb, so, tk, lk, ()), len, Eng.OwnD.mk b off n c z m cap ez f, pl, op, wg, ms, gv, ()) x8, false) else x7=(Mk.FD.look (Mk.FD.adv (fb, fo, (sb, so, tk, lk, ()), len, Eng.OwnD.mk b off n c z m cap ez f, pl, op, wg, ms, gv, ()) x8), true)))))) (by kernel_rfl) ?_
  try simp only [eq_self, true_and, and_true, Nat.le_refl, implies_true, forall_const, Bool.false_eq_true, Bool.true_eq_false, reduceCtorEq, false_imp_iff, true_imp_iff, Int.toNat_zero, Int.toNat_natCast, Nat.zero_lt_one, Int.le_refl, allGet]
  obtain ⟨⟨⟨h1, h2, h3', h4'⟩, h5, h6, h7, h8, h9⟩, hm, _⟩ := hp
  dsimp only [FD.l, FD.pl, FD.ms] at h1 h2 h3' h4' h5 h6 h7 h8 h9 hm
  have svr : ∀ v : SV, SVeq v v := fun v => ⟨rfl, rfl, rfl, fun h => h⟩
  refine ⟨fun h0 x' hx' => ?_, fun h0 t1 ht1 v1 hv1 t2 ht2 => ?_⟩
  · have hlk : lk = false := by simpa using h0
    subst hx' hlk
    refine ⟨⟨⟨h1, h2, h3', h4'⟩, h5, h6, h7, h8, h9⟩, fun k hk t1 ht1 t2 ht2 => ⟨fun _ => ⟨rfl, rfl⟩, fun v1 hv1 t3 ht3 => ?_⟩⟩
    have ht : (t3 = true → n - k < 32) ∧ (t3 = false → 32 ≤ n - k) := by
      dsimp only at ht1 hv1
      rw [if_pos h0] at ht2
      rw [hv1] at ht3
      by_cases q : 32 ≤ n - k
      · have : t1 = true := by rw [ht1]; exact decide_eq_true q
        rw [ht2, this, if_neg (by decide)] at ht3
        have : t3 = false := by rw [ht3]; exact decide_eq_false (by omega)
        rw [this]
        exact ⟨fun h => (by cases h), fun _ => q⟩
      · have : t1 = false := by rw [ht1]; exact decide_eq_false q
        rw [ht2, this, if_pos (by decide)] at ht3
        rw [ht3]
        exact ⟨fun _ => by omega, fun h => by cases h⟩
    refine ⟨fun h => ?_, fun h => ⟨⟨rfl, rfl⟩, by dsimp only; omega, ht.2 h, fun v2 hv2 => ?_⟩⟩
    · have hn := ht.1 h
      exact ⟨(FD.adv (fb, fo, ⟨⟨sb, so, ⟨tk, false, ()⟩⟩, len, ⟨b, off, n, c, z, m, cap, ez, f⟩, pl, op, wg, ms, gv, ()⟩) k, false), rfl, ⟨⟨rfl, rfl⟩, ⟨rfl, rfl⟩, rfl, ⟨rfl, rfl, rfl, rfl, rfl⟩, rfl, rfl, rfl, rfl, svr _⟩, ⟨⟨rfl, rfl⟩, rfl, rfl⟩, ⟨⟨rfl, rfl, rfl, Nat.le_refl _, h2, Nat.le_refl _⟩, fun i hi => rfl⟩, k, by rw [if_neg (by decide)]; exact hk, by rw [if_pos hn]⟩
    have hn : ¬ n - k < 32 := by have := ht.2 h; omega
    have ev : v2 = (wrA (FD.adv (fb, fo, ⟨⟨sb, so, ⟨tk, false, ()⟩⟩, len, ⟨b, off, n, c, z, m, cap, ez, f⟩, pl, op, wg, ms, gv, ()⟩) k).l.f 0 : Nat) := by
      rw [hv2, wrA]
      exact congrArg (fun x : Nat => (x : Int)) (wr_congr fun i hi => by rw [Nat.zero_add]; rfl)
    refine ⟨⟨rfl, rfl⟩, ⟨rfl, rfl⟩, fun q => ⟨⟨rfl, rfl⟩, ⟨rfl, rfl⟩, ⟨rfl, rfl⟩, ?_⟩, fun q => ⟨⟨rfl, rfl⟩, fun v3 hv3 => ⟨⟨rfl, rfl⟩, ⟨rfl, rfl⟩, fun q3 => ⟨⟨rfl, rfl⟩, ?_⟩, fun q3 => ⟨⟨rfl, rfl⟩, ?_⟩⟩⟩⟩
    · have q := of_decide_eq_true q
      exact ⟨(FD.mk fb fo sb so tk true len (FD.cut ⟨b, off, n, c, z, m, cap, ez, f⟩ k) (pl + ((k : Nat) : Int)) true (wrA (FD.cut ⟨b, off, n, c, z, m, cap, ez, f⟩ k).f 0 : Nat) 0 gv, true), rfl, ⟨⟨rfl, rfl⟩, ⟨rfl, rfl⟩, rfl, ⟨rfl, rfl, rfl, rfl, rfl⟩, rfl, rfl, ev, rfl, svr _⟩, ⟨⟨rfl, rfl⟩, rfl, rfl⟩, ⟨⟨rfl, rfl, rfl, Nat.le_refl _, h2, Nat.le_refl _⟩, fun i hi => rfl⟩, k, by rw [if_neg (by decide)]; exact hk, by rw [if_neg hn, look1 (by omega)]; rfl⟩
    · have q := of_decide_eq_false q
      have e3 : v3 = ms + 1 := hv3.trans (w64_id (by show _ ≤ ms + 1; omega) (by show ms + 1 ≤ _; omega))
      have q3 : v3 = 3 := by simpa using q3
      exact ⟨(FD.mk fb fo sb so tk false len (FD.cut ⟨b, off, n, c, z, m, cap, ez, f⟩ k) (pl + ((k : Nat) : Int)) op (wrA (FD.cut ⟨b, off, n, c, z, m, cap, ez, f⟩ k).f 0 : Nat) (ms + 1) gv, true), rfl, ⟨⟨rfl, rfl⟩, ⟨rfl, rfl⟩, rfl, ⟨rfl, rfl, rfl, rfl, rfl⟩, rfl, rfl, ev, e3, svr _⟩, ⟨⟨rfl, rfl⟩, rfl, rfl⟩, ⟨⟨rfl, rfl, rfl, Nat.le_refl _, h2, Nat.le_refl _⟩, fun i hi => rfl⟩, k, by rw [if_neg (by decide)]; exact hk, by rw [if_neg hn, look2 (by omega) (by show ms + 1 = 3; omega)]; rfl⟩
    · have q := of_decide_eq_false q
      have e3 : v3 = ms + 1 := hv3.trans (w64_id (by show _ ≤ ms + 1; omega) (by show ms + 1 ≤ _; omega))
      have q3 : v3 ≠ 3 := by simpa using q3
      exact ⟨(FD.mk fb fo sb so tk false len (FD.cut ⟨b, off, n, c, z, m, cap, ez, f⟩ k) (pl + ((k : Nat) : Int)) true (wrA (FD.cut ⟨b, off, n, c, z, m, cap, ez, f⟩ k).f 0 : Nat) (ms + 1) gv, true), rfl, ⟨⟨rfl, rfl⟩, ⟨rfl, rfl⟩, rfl, ⟨rfl, rfl, rfl, rfl, rfl⟩, rfl, rfl, ev, e3, svr _⟩, ⟨⟨rfl, rfl⟩, rfl, rfl⟩, ⟨⟨rfl, rfl, rfl, Nat.le_refl _, h2, Nat.le_refl _⟩, fun i hi => rfl⟩, k, by rw [if_neg (by decide)]; exact hk, by rw [if_neg hn, look3 (by omega) (by show ms + 1 ≠ 3; omega)]; rfl⟩
  · have hlk : lk = true := by cases lk with | true => rfl | false => exact (h0 rfl).elim
    subst hlk
    rw [if_neg (by decide)] at ht1
    rw [ht1, if_neg (by decide), hv1] at ht2
    have hf : ∀ i, f i = (FD.adv (fb, fo, ⟨⟨sb, so, ⟨tk, true, ()⟩⟩, len, ⟨b, off, n, c, z, m, cap, ez, f⟩, pl, op, wg, ms, gv, ()⟩) 0).l.f i := fun i => by
      show f i = if i < n - 0 then f (i + 0) else f i
      split <;> rfl
    have hpl : pl = pl + ((0 : Nat) : Int) := (Int.add_zero _).symm
    refine ⟨fun h => ?_, fun h => ?_⟩
    · rw [ht2] at h
      have hn := of_decide_eq_true h
      exact ⟨(FD.adv (fb, fo, ⟨⟨sb, so, ⟨tk, true, ()⟩⟩, len, ⟨b, off, n, c, z, m, cap, ez, f⟩, pl, op, wg, ms, gv, ()⟩) 0, false), rfl, ⟨⟨rfl, rfl⟩, ⟨rfl, rfl⟩, rfl, ⟨rfl, rfl, rfl, rfl, rfl⟩, hpl, rfl, rfl, rfl, svr _⟩, ⟨⟨rfl, rfl⟩, rfl, rfl⟩, ⟨⟨rfl, rfl, rfl, Nat.le_refl _, h2, Nat.le_refl _⟩, fun i hi => hf i⟩, 0, by rw [if_pos rfl], by rw [if_pos (by show n - 0 < 32; omega)]⟩
    rw [ht2] at h
    have hn := of_decide_eq_false h
    refine ⟨h1, by omega, fun v2 hv2 => ?_⟩
    have hn' : ¬ n - 0 < 32 := by omega
    have ev : v2 = (wrA (FD.adv (fb, fo, ⟨⟨sb, so, ⟨tk, true, ()⟩⟩, len, ⟨b, off, n, c, z, m, cap, ez, f⟩, pl, op, wg, ms, gv, ()⟩) 0).l.f 0 : Nat) := by
      rw [hv2, wrA]
      exact congrArg (fun x : Nat => (x : Int)) (wr_congr fun i hi => by rw [Nat.zero_add]; exact hf i)
    have hm : ms < 3 := by rcases hm with hm | hm; exact hm; cases hm
    refine ⟨fun q => ?_, fun q v3 hv3 => ⟨fun q3 => ?_, fun q3 => ?_⟩⟩
    · have q := of_decide_eq_true q
      exact ⟨(FD.mk fb fo sb so tk true len (FD.cut ⟨b, off, n, c, z, m, cap, ez, f⟩ 0) (pl + ((0 : Nat) : Int)) true (wrA (FD.cut ⟨b, off, n, c, z, m, cap, ez, f⟩ 0).f 0 : Nat) 0 gv, true), rfl, ⟨⟨rfl, rfl⟩, ⟨rfl, rfl⟩, rfl, ⟨rfl, rfl, rfl, rfl, rfl⟩, hpl, rfl, ev, rfl, svr _⟩, ⟨⟨rfl, rfl⟩, rfl, rfl⟩, ⟨⟨rfl, rfl, rfl, Nat.le_refl _, h2, Nat.le_refl _⟩, fun i hi => hf i⟩, 0, by rw [if_pos rfl], by rw [if_neg hn', look1 (by omega)]; rfl⟩
    · have q := of_decide_eq_false q
      have e3 : v3 = ms + 1 := hv3.trans (w64_id (by show _ ≤ ms + 1; omega) (by show ms + 1 ≤ _; omega))
      have q3 : v3 = 3 := by simpa using q3
      exact ⟨(FD.mk fb fo sb so tk false len (FD.cut ⟨b, off, n, c, z, m, cap, ez, f⟩ 0) (pl + ((0 : Nat) : Int)) op (wrA (FD.cut ⟨b, off, n, c, z, m, cap, ez, f⟩ 0).f 0 : Nat) (ms + 1) gv, true), rfl, ⟨⟨rfl, rfl⟩, ⟨rfl, rfl⟩, rfl, ⟨rfl, rfl, rfl, rfl, rfl⟩, hpl, rfl, ev, e3, svr _⟩, ⟨⟨rfl, rfl⟩, rfl, rfl⟩, ⟨⟨rfl, rfl, rfl, Nat.le_refl _, h2, Nat.le_refl _⟩, fun i hi => hf i⟩, 0, by rw [if_pos rfl], by rw [if_neg hn', look2 (by omega) (by show ms + 1 = 3; omega)]; rfl⟩
    · have q := of_decide_eq_false q
      have e3 : v3 = ms + 1 := hv3.trans (w64_id (by show _ ≤ ms + 1; omega) (by show ms + 1 ≤ _; omega))
      have q3 : v3 ≠ 3 := by simpa using q3
      exact ⟨(FD.mk fb fo sb so tk true len (FD.cut ⟨b, off, n, c, z, m, cap, ez, f⟩ 0) (pl + ((0 : Nat) : Int)) true (wrA (FD.cut ⟨b, off, n, c, z, m, cap, ez, f⟩ 0).f 0 : Nat) (ms + 1) gv, true), rfl, ⟨⟨rfl, rfl⟩, ⟨rfl, rfl⟩, rfl, ⟨rfl, rfl, rfl, rfl, rfl⟩, hpl, rfl, ev, e3, svr _⟩, ⟨⟨rfl, rfl⟩, rfl, rfl⟩, ⟨⟨rfl, rfl, rfl, Nat.le_refl _, h2, Nat.le_refl _⟩, fun i hi => hf i⟩, 0, by rw [if_pos rfl], by rw [if_neg hn', look3 (by omega) (by show ms + 1 ≠ 3; omega)]; rfl⟩
end Mk
