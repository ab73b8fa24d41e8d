/-
  OWN WORK. Sender: Take of a list of gaps, of a sender with one transaction.
-/
import Derived.Test.YtfmbmiiioojbeaaGreatN9
namespace Rc
open Go Go.Proofs Eng
set_option linter.unusedVariables false
set_option linter.unusedSimpArgs false
set_option maxRecDepth 100000
set_option maxHeartbeats 4000000
def gpU (m : Bool) (gs : List P2) : U := ⟨5, 9, [], 0, 0, 0, [], 0, 0, m, gs⟩
abbrev uGap (m : Bool) (gs : List P2) (g b o c : Nat) : SV := .agg [.int .i64 5, .int .i64 9, .str [], .int .i64 0, .int .u32 0, .int .i64 0, .str [], .int .i64 0, .int .i64 0, .bool m, .slice g b o [] 2 0 gs.length c (decide (gs.length = 0))]
abbrev gRow (gs : List P2) (g b o c : Nat) : Ent := ⟨g, b, o, 2, gs.length, fun k => .agg [.int .i64 (gs.getD k (0, 0)).1, .int .i64 (gs.getD k (0, 0)).2], true, false, c, 45, decide (gs.length = 0), none⟩
noncomputable def getG (args : List SV) (H : Hp) (nx : Nat) (K : SV → Hp → Nat → Prop) : Prop := match args with
  | [.str l] => (goodB l ∧ unB l = gpU (unB l).me (unB l).gaps) ∧ ∀ b o c : Nat, (unB l).gaps.length ≤ c → c ≤ 9223372036854775807 → ((unB l).gaps.length = 0 → c = 0) → K (.tup [uGap (unB l).me (unB l).gaps nx b o c, .int .i64 0]) (gRow (unB l).gaps nx b o c :: H) (nx + 1)
  | _ => False
theorem getG_ok : EcOk Tryz.prog 44 getG := by
  intro args H nx K hc hw
  unfold getG at hc
  split at hc
  · rename_i l
    obtain ⟨⟨hg, hf⟩, k1⟩ := hc
    refine get_ok [.str l] H nx K ?_ hw
    intro x' hx
    subst hx
    refine ⟨hg, fun y ⟨q1, q2, q3⟩ => ?_⟩
    have hk := k1 y.1 y.2.1 y.2.2 q1 q2 q3
    have e : uSV (unB l) nx y = uGap (unB l).me (unB l).gaps nx y.1 y.2.1 y.2.2 := (congrArg (fun u => uSV u nx y) hf).trans rfl
    show K (.tup [uSV (unB l) nx y, .int .i64 0]) (_ :: Hp.minus [] H) _
    rw [e, minus_none]
    exact hk
  · exact hc.elim
def inG (F : Int) (gs : List P2) (z : Int) : Prop := ∃ g ∈ gs, g.1 ≤ z ∧ z < min g.2 F
abbrev TaX := Nat × Nat × SX × List UInt8
def x0T (x : SX) (m : Bool) : SX := ⟨x.bT, x.name, x.file, x.ph, 1, 10, x.me || m, x.en, x.sb, x.so, x.sN, x.si, x.sn, x.sc, x.sz, x.sf⟩
def taOk (x : TaX) : Prop := goodB x.2.2.2 ∧ unB x.2.2.2 = gpU (unB x.2.2.2).me (unB x.2.2.2).gaps ∧ (∀ g ∈ (unB x.2.2.2).gaps, 0 ≤ g.1 ∧ g.1 ≤ 65535 ∧ 0 ≤ g.2 ∧ g.2 ≤ 65535) ∧ x.2.2.1.sn + (unB x.2.2.2).gaps.length ≤ 999
def taL : LA := ⟨0, TaX, [0, 1], fun x => [.ptr 600 x.1 0 [.elt 0 6], .str x.2.2.2], [600, 601, 602, 603], fun x => nxEnts (x.1, x.2.1, x.2.2.1), fun x => nxOk x.2.2.1 ∧ taOk x, fun _ => 0⟩
def taP (x : TaX) (y : SX) : Prop := nxOk y ∧ sameT (x0T x.2.2.1 (unB x.2.2.2).me) y ∧ y.sn ≤ x.2.2.1.sn + (unB x.2.2.2).gaps.length ∧ ∀ z, inL (spL y) z ↔ inL (spL x.2.2.1) z ∨ inG x.2.2.1.file.length (unB x.2.2.2).gaps z
def taC := bxC taL (fun _ => SX) (fun x y => (.tup [nilSlice, .int .i64 0], nxEnts (x.1, x.2.1, y))) taP
abbrev TgX := Nat × SX
def tgI (x : SX) (m : Bool) (gs : List P2) (y : TgX) : Prop := y.1 ≤ gs.length ∧ spOk y.2 ∧ Sp x.file.length (spL y.2) ∧ sameT (x0T x m) y.2 ∧ y.2.sn ≤ x.sn + y.1 ∧ ∀ z, inL (spL y.2) z ↔ inL (spL x) z ∨ inG x.file.length (gs.take y.1) z
def tgLoop (x : SX) (m : Bool) (gs : List P2) : LA := ⟨6, TgX, [40], fun y => [.int .i64 (y.1 : Nat)], [602, 603], fun y => [trE y.2, spE y.2], tgI x m gs, fun y => gs.length - y.1⟩
noncomputable def ETA (x : SX) (m : Bool) (gs : List P2) : Env := ((((((((((E0.addQ 24 eqPt).addQ 75 eqPt).addQ 66 eqMp).addQ 95 eqFn).addE 44 getG).addE 33 addC).inl 31 Tryz.f31 fun _ _ => rds 1).inl 118 Tryz.f118 fun _ _ => [.draw 1 (.take 0 (.take 1 (.take 2 (.take 3 (.take 4 (.take 5 (.take 6 (.take 7 .fin)))))))) []] ++ rds 5).inl 45 Tryz.f45 fun _ _ => rds 1).inl 73 Tryz.f73 fun _ _ => [.loop (tgLoop x m gs), .draw 8 (.take 0 (.take 1 (.take 2 (.take 3 (.take 4 (.take 5 (.take 6 (.take 7 (.take 8 (.take 9 (.br 10 (.take 11 (.take 12 (.br 13 .fin .stop))) .stop))))))))))) [6, 100603], .raw 1, .raw 2, .raw 4, .raw 5, .det 2, .det 3, .sure 2])
theorem ETA_ok (x : SX) (m : Bool) (gs : List P2) : EnvOk Tryz.prog (ETA x m gs) := ((((((((((E0_ok.addQ (eqPt_ok (by kernel_rfl))).addQ (eqPt_ok (by kernel_rfl))).addQ (eqMp_ok Tryz.underlying66)).addQ (eqFn_ok Tryz.underlying95)).addE getG_ok).addE add_ok).inl _ Tryz.func31 rfl (by kernel_rfl)).inl _ Tryz.func118 rfl (by kernel_rfl)).inl _ Tryz.func45 rfl (by kernel_rfl)).inl _ Tryz.func73 rfl (by kernel_rfl))
theorem in64 {x : Int} (h1 : -9223372036854775808 ≤ x) (h2 : x ≤ 9223372036854775807) : inKind .i64 x := by
  unfold inKind Go.Lit.wf
  simp [IntKind.min, IntKind.max, IntKind.bits, IntKind.signed, h1, h2]
  try omega
theorem inG_succ (F : Int) (gs : List P2) (i : Nat) (hi : i < gs.length) (z : Int) : inG F (gs.take (i + 1)) z ↔ inG F (gs.take i) z ∨ ((gs.getD i (0, 0)).1 ≤ z ∧ z < min (gs.getD i (0, 0)).2 F) := by
  have e : gs.getD i (0, 0) = gs[i] := by simp [List.getD, List.getElem?_eq_getElem hi]
  rw [e]
  unfold inG
  rw [List.take_add_one, List.getElem?_eq_getElem hi, Option.toList_some]
  constructor
  · rintro ⟨g, hg, h⟩
    rcases List.mem_append.1 hg with hg | hg
    · exact .inl ⟨g, hg, h⟩
    · rw [List.mem_singleton.1 hg] at h
      exact .inr h
  · rintro (⟨g, hg, h⟩ | h)
    · exact ⟨g, List.mem_append.2 (.inl hg), h⟩
    · exact ⟨_, List.mem_append.2 (.inr (List.mem_singleton.2 rfl)), h⟩
theorem sameT_trans {x y z : SX} (h1 : sameT x y) (h2 : sameT y z) : sameT x z := ⟨h2.1.trans h1.1, h2.2.1.trans h1.2.1, h2.2.2.1.trans h1.2.2.1, h2.2.2.2.1.trans h1.2.2.2.1, h2.2.2.2.2.1.trans h1.2.2.2.2.1, h2.2.2.2.2.2.1.trans h1.2.2.2.2.2.1, h2.2.2.2.2.2.2.1.trans h1.2.2.2.2.2.2.1, h2.2.2.2.2.2.2.2.trans h1.2.2.2.2.2.2.2⟩
theorem tg_step {x : SX} {m : Bool} {gs : List P2} {y : TgX} (h : tgI x m gs y) (hi : y.1 < gs.length) (hg : ∀ g ∈ gs, 0 ≤ g.1 ∧ g.1 ≤ 65535 ∧ 0 ≤ g.2 ∧ g.2 ≤ 65535) {v : Int} (hv : v = min (gs.getD y.1 (0, 0)).2 x.file.length) {y1 : SX} (h1 : addP (y.2, (gs.getD y.1 (0, 0)).1, v) y1) : tgI x m gs (y.1 + 1, y1) := by
  obtain ⟨i1, i2, i3, i4, i5, i6⟩ := h
  obtain ⟨a1, a2, a3, a4⟩ := h1
  have e : gs.getD y.1 (0, 0) = gs[y.1] := by simp [List.getD, List.getElem?_eq_getElem hi]
  have hb := hg (gs.getD y.1 (0, 0)) (e ▸ List.getElem_mem hi)
  have a3 : AddIs x.file.length (spL y.2) (gs.getD y.1 (0, 0)).1 v (spL y1) := a3
  obtain ⟨s1, s2⟩ := add_is i3 hb.1 (by omega) a3
  refine ⟨hi, a1, s1, sameT_trans i4 a2, ?_, fun z => ?_⟩
  · have a4 : y1.sn ≤ y.2.sn + 1 := a4
    show y1.sn ≤ x.sn + (y.1 + 1)
    omega
  · rw [s2 z, i6 z, inG_succ _ _ _ hi, ← hv, or_assoc]
theorem take_ok : EcOk Tryz.prog 13 taC := by
  refine bx_run (A := taL) (E := fun x => ETA x.2.2.1 (unB x.2.2.2).me (unB x.2.2.2).gaps) (fun x => ETA_ok _ _ _) Tryz.func13 rfl (by kernel_rfl) 2 rfl (fun _ => rfl) (Nat.le_of_ble_eq_true rfl) (fun x => [.draw 6 (.take 1 (.take 2 (.br 0 (.br 3 (.take 4 .fin) .stop) .stop))) []] ++ rds 9) 700 (fun ⟨bS, bM, ⟨bT, nm, fl, ph, tr, cl, me, en, sb, so, sN, si, sn, sc, sz, sf⟩, l⟩ hi hw => ?_)
  refine vc_of (q :=
      (false=false→bS=bS∧0=0)∧(goodB l∧unB l=gpU ((unB l).me) ((unB l).gaps))∧∀ (b1 b2 b3:Nat), List.length ((unB l).gaps)≤b3→b3≤9223372036854775807→(List.length ((unB l).gaps)=0→b3=0)→∀ (b4:Nat), (b4=b4∧0=0)∧(b4=b4∧0=0)∧(∀ (b5:Nat), b5=b5∧0 < 1∧(∀ (b6:Nat), b6 < 1→b6≠0→b5≠b5)∧b5=b5∧0 < 1∧(∀ (b7:Nat), b7 < 1→b7≠0→b5≠b5)∧b5=b5∧0 < 1∧(∀ (b8:Nat), b8 < 1→b8≠0→b5≠b5)∧(b5=b5∧0 < 1∧(b4=b4∧0=0)∧∀ (b9:Nat),
      (b9=b9∧0=0)∧∀ (b10:Nat), (bS=bS∧0=0)∧(b10=b10∧0=0)∧bM=bM∧0 < 1∧(bS=bS∧0=0)∧(bT=bT∧0=0)∧(bT=bT∧0=0)∧(((0:Int) != (0:Int))=false→bT=bT∧0=0)∧(bT=bT∧0=0)∧(me=false→b9=b9∧0=0)∧(bT=bT∧0=0)∧(b9=b9∧0=0)∧(∃ (x1:Nat × SX), 0=(↑x1.1:Int)∧((bT=SX.bT x1.2∧0=0∧false=false∧1≤1∧1≤1∧1≤1)∧(9:Int)=9∧(1:Int)=1∧nm=SX.name x1.2∧fl=SX.file x1.2∧(0:Int)=0∧ph=SX.ph x1.2∧(1:Int)=SX.tr x1.2∧(10:Int)=SX.cl x1.2∧(if me=true
      then true else (unB l).me)=SX.me x1.2∧en=SX.en x1.2∧sb=SX.sb x1.2∧so=SX.so x1.2∧si=SX.si x1.2∧sn=SX.sn x1.2∧sc=SX.sc x1.2∧sz=SX.sz x1.2)∧((sb=SX.sb x1.2∧so=SX.so x1.2∧sz=SX.sz x1.2∧SX.sN x1.2≤sN∧SX.sN x1.2≤SX.sN x1.2∧SX.sN x1.2≤sN)∧∀ (i1:Nat), i1 < SX.sN x1.2→(sf i1).1=(SX.sf x1.2 i1).1∧(sf i1).2=(SX.sf x1.2 i1).2)∧x1.1≤List.length ((unB l).gaps)∧spOk x1.2∧Sp (↑(List.length fl):Int) (spL
      x1.2)∧sameT (x0T (SX.mk bT nm fl ph tr cl me en sb so sN si sn sc sz sf) ((unB l).me)) x1.2∧SX.sn x1.2≤sn+x1.1∧∀ (v1:Int), inL (spL x1.2) v1↔inL (spL (SX.mk bT nm fl ph tr cl me en sb so sN si sn sc sz sf)) v1∨inG (↑(List.length fl):Int) (List.take x1.1 ((unB l).gaps)) v1)∧∀ (x2:Nat × SX), tgI (SX.mk bT nm fl ph tr cl me en sb so sN si sn sc sz sf) ((unB l).me) ((unB l).gaps) x2→(decide
      ((↑x2.1:Int) < (↑(List.length ((unB l).gaps)):Int))=true→0≤(↑x2.1:Int)∧(↑x2.1:Int) < (↑(List.length ((unB l).gaps)):Int)∧(b1=b1∧b2=b2)∧Int.toNat (↑x2.1:Int) < List.length ((unB l).gaps)∧∀ (b11:Nat), (b11=b11∧0=0)∧(b11=b11∧0=0)∧(b11=b11∧0=0)∧((SX.bT x2.2=bT∧0=0)∧∀ (v2:Int), v2=(↑(List.length (SX.file x2.2)):Int)→∀ (v3:Int), (v3=if v2 < (List.getD ((unB l).gaps) (Int.toNat (↑x2.1:Int)) ((0:Int),
      (0:Int))).2 then v2 else (List.getD ((unB l).gaps) (Int.toNat (↑x2.1:Int)) ((0:Int), (0:Int))).2)→(∃ (x3:SX × Int × Int), (0=0∧bT=SX.bT x3.1∧0=0)∧(List.getD ((unB l).gaps) (Int.toNat (↑x2.1:Int)) ((0:Int), (0:Int))).1=x3.2.1∧v3=x3.2.2∧((SX.bT x2.2=SX.bT x3.1∧0=0∧false=false∧1≤1∧1≤1∧1≤1)∧(9:Int)=9∧(1:Int)=1∧SX.name x2.2=SX.name x3.1∧SX.file x2.2=SX.file x3.1∧(0:Int)=0∧SX.ph x2.2=SX.ph x3.1∧SX.tr
      x2.2=SX.tr x3.1∧SX.cl x2.2=SX.cl x3.1∧SX.me x2.2=SX.me x3.1∧SX.en x2.2=SX.en x3.1∧SX.sb x2.2=SX.sb x3.1∧SX.so x2.2=SX.so x3.1∧SX.si x2.2=SX.si x3.1∧SX.sn x2.2=SX.sn x3.1∧SX.sc x2.2=SX.sc x3.1∧SX.sz x2.2=SX.sz x3.1)∧((SX.sb x2.2=SX.sb x3.1∧SX.so x2.2=SX.so x3.1∧SX.sz x2.2=SX.sz x3.1∧SX.sN x3.1≤SX.sN x2.2∧SX.sN x3.1≤SX.sN x3.1∧SX.sN x3.1≤SX.sN x2.2)∧∀ (i2:Nat), i2 < SX.sN x3.1→(SX.sf x2.2
      i2).1=(SX.sf x3.1 i2).1∧(SX.sf x2.2 i2).2=(SX.sf x3.1 i2).2)∧(spOk x3.1∧SX.sn x3.1≤999∧Go.Lit.wf (Go.Lit.int IntKind.i64 x3.2.1)=true∧Go.Lit.wf (Go.Lit.int IntKind.i64 x3.2.2)=true)∧∀ (y1:SX), addP x3 y1→∀ (v4:Int), v4=IntKind.i64.wrap ((↑x2.1:Int)+(1:Int))→∃ (x4:Nat × SX), v4=(↑x4.1:Int)∧((SX.bT y1=SX.bT x4.2∧0=0∧false=false∧1≤1∧1≤1∧1≤1)∧(9:Int)=9∧(1:Int)=1∧SX.name y1=SX.name x4.2∧SX.file
      y1=SX.file x4.2∧(0:Int)=0∧SX.ph y1=SX.ph x4.2∧SX.tr y1=SX.tr x4.2∧SX.cl y1=SX.cl x4.2∧SX.me y1=SX.me x4.2∧SX.en y1=SX.en x4.2∧SX.sb y1=SX.sb x4.2∧SX.so y1=SX.so x4.2∧SX.si y1=SX.si x4.2∧SX.sn y1=SX.sn x4.2∧SX.sc y1=SX.sc x4.2∧SX.sz y1=SX.sz x4.2)∧((SX.sb y1=SX.sb x4.2∧SX.so y1=SX.so x4.2∧SX.sz y1=SX.sz x4.2∧SX.sN x4.2≤SX.sN y1∧SX.sN x4.2≤SX.sN x4.2∧SX.sN x4.2≤SX.sN y1)∧∀ (i3:Nat), i3 < SX.sN
      x4.2→(SX.sf y1 i3).1=(SX.sf x4.2 i3).1∧(SX.sf y1 i3).2=(SX.sf x4.2 i3).2)∧tgI (SX.mk bT nm fl ph tr cl me en sb so sN si sn sc sz sf) ((unB l).me) ((unB l).gaps) x4∧List.length ((unB l).gaps) - x4.1 < List.length ((unB l).gaps) - x2.1)∧True)∧True)∧(decide ((↑x2.1:Int) < (↑(List.length ((unB l).gaps)):Int))=false→∃ (x3:SX),
      ((0=0∧0=0∧0=0∧0=0∧0=0∧true=true)∧(0:Int)=0)∧((bS=bS∧0=0∧false=false∧1≤1∧1≤1∧1≤1)∧(10:Int)=10∧(5:Int)=5∧false=false∧(0=0∧0=0∧0=0∧0=0∧0=0∧true=true)∧bM=bM∧(1:Int)=1)∧(∀ (i2:Nat), i2 < 1→∃ (x4:Nat), x4 < 1∧(bM, 0)=(bM, 0)∧(∀ (v2:Int), decide (v2=(9:Int))=decide (v2=(9:Int)))∧∀ (v3:Int), decide (v3=(9:Int))=true→0=0∧bT=SX.bT x3∧0=0)∧((SX.bT x2.2=SX.bT
      x3∧0=0∧false=false∧1≤1∧1≤1∧1≤1)∧(9:Int)=9∧(1:Int)=1∧SX.name x2.2=SX.name x3∧SX.file x2.2=SX.file x3∧(0:Int)=0∧SX.ph x2.2=SX.ph x3∧SX.tr x2.2=SX.tr x3∧SX.cl x2.2=SX.cl x3∧SX.me x2.2=SX.me x3∧SX.en x2.2=SX.en x3∧SX.sb x2.2=SX.sb x3∧SX.so x2.2=SX.so x3∧SX.si x2.2=SX.si x3∧SX.sn x2.2=SX.sn x3∧SX.sc x2.2=SX.sc x3∧SX.sz x2.2=SX.sz x3)∧((SX.sb x2.2=SX.sb x3∧SX.so x2.2=SX.so x3∧SX.sz x2.2=SX.sz x3∧SX.sN
      x3≤SX.sN x2.2∧SX.sN x3≤SX.sN x3∧SX.sN x3≤SX.sN x2.2)∧∀ (i3:Nat), i3 < SX.sN x3→(SX.sf x2.2 i3).1=(SX.sf x3 i3).1∧(SX.sf x2.2 i3).2=(SX.sf x3 i3).2)∧nxOk x3∧sameT (x0T (SX.mk bT nm fl ph tr cl me en sb so sN si sn sc sz sf) ((unB l).me)) x3∧SX.sn x3≤sn+List.length ((unB l).gaps)∧∀ (v2:Int), inL (spL x3) v2↔inL (spL (SX.mk bT nm fl ph tr cl me en sb so sN si sn sc sz sf)) v2∨inG (↑(List.length
      fl):Int) ((unB l).gaps) v2))∧True)∧True) (by kernel_rfl) ?_
  obtain ⟨hO, hB, hU, hg, hn⟩ := hi
  dsimp only at hB hU hg hn
  have hO2 := hO
  obtain ⟨o0, oS, oF, oN1, oN2⟩ := hO2
  dsimp only at oS oF oN1 oN2
  generalize hgs : (unB l).gaps = gs at *
  generalize hm' : (unB l).me = m at *
  have hmo : (if me = true then true else m) = (me || m) := by cases me <;> rfl
  repeat' (first | with_reducible exact rfl | exact trivial | exact Nat.le_refl _ | refine And.intro ?_ ?_ | intro _)
  all_goals (first | omega | contradiction | assumption | skip)
  · exact ⟨(0, x0T ⟨bT, nm, fl, ph, tr, cl, me, en, sb, so, sN, si, sn, sc, sz, sf⟩ m), rfl, ⟨⟨rfl, rfl, rfl, Nat.le_refl _, Nat.le_refl _, Nat.le_refl _⟩, rfl, rfl, rfl, rfl, rfl, rfl, rfl, rfl, hmo, rfl, rfl, rfl, rfl, rfl, rfl, rfl⟩, ⟨⟨rfl, rfl, rfl, Nat.le_refl _, Nat.le_refl _, Nat.le_refl _⟩, fun _ _ => ⟨rfl, rfl⟩⟩, Nat.zero_le _, o0, oS, ⟨rfl, rfl, rfl, rfl, rfl, rfl, rfl, rfl⟩, Nat.le_refl _, fun v => ⟨.inl, fun h => h.elim id (fun ⟨_, h, _⟩ => by simp at h)⟩⟩
  · rename_i hd; exact of_decide_eq_true hd
  · rename_i hd; have := of_decide_eq_true hd; omega
  · rename_i h1 hd b11; exact h1.2.2.2.1.1
  · rename_i x2 h1 hd b11 v2 e2 v3 e3
    have hi : x2.1 < gs.length := by have := of_decide_eq_true hd; omega
    have hF : x2.2.file = fl := h1.2.2.2.1.2.2.1
    rw [Int.toNat_natCast] at e3 ⊢
    have e : gs.getD x2.1 (0, 0) = gs[x2.1] := by simp [List.getD, List.getElem?_eq_getElem hi]
    have hb := hg (gs.getD x2.1 (0, 0)) (e ▸ List.getElem_mem hi)
    have hv : v3 = min (gs.getD x2.1 (0, 0)).2 fl.length := by
      rw [hF] at e2
      rw [e3, e2]
      split <;> omega
    have hs : x2.2.sn ≤ sn + x2.1 := h1.2.2.2.2.1
    exact ⟨(x2.2, (gs.getD x2.1 (0, 0)).1, v3), ⟨rfl, h1.2.2.2.1.1.symm, rfl⟩, rfl, rfl, ⟨⟨rfl, rfl, rfl, Nat.le_refl _, Nat.le_refl _, Nat.le_refl _⟩, rfl, rfl, rfl, rfl, rfl, rfl, rfl, rfl, rfl, rfl, rfl, rfl, rfl, rfl, rfl, rfl⟩, ⟨⟨rfl, rfl, rfl, Nat.le_refl _, Nat.le_refl _, Nat.le_refl _⟩, fun _ _ => ⟨rfl, rfl⟩⟩, ⟨h1.2.1, by dsimp only; omega, in64 (by dsimp only; omega) (by dsimp only; omega), in64 (by dsimp only; omega) (by dsimp only; omega)⟩, fun y1 hy v4 e4 => ⟨(x2.1 + 1, y1), e4.trans (l_succ (by omega)), ⟨⟨rfl, rfl, rfl, Nat.le_refl _, Nat.le_refl _, Nat.le_refl _⟩, rfl, rfl, rfl, rfl, rfl, rfl, rfl, rfl, rfl, rfl, rfl, rfl, rfl, rfl, rfl, rfl⟩, ⟨⟨rfl, rfl, rfl, Nat.le_refl _, Nat.le_refl _, Nat.le_refl _⟩, fun _ _ => ⟨rfl, rfl⟩⟩, tg_step h1 hi hg hv hy, by dsimp only; omega⟩⟩
  · rename_i x2 h1 hd
    have hi : x2.1 = gs.length := by have := of_decide_eq_false hd; have := h1.1; omega
    obtain ⟨i1, i2, i3, i4, i5, i6⟩ := h1
    rw [hi, List.take_length] at i6
    have hF : x2.2.file = fl := i4.2.2.1
    have hN : x2.2.name = nm := i4.2.1
    exact ⟨x2.2, ⟨⟨rfl, rfl, rfl, rfl, rfl, rfl⟩, rfl⟩, ⟨⟨rfl, rfl, rfl, Nat.le_refl _, Nat.le_refl _, Nat.le_refl _⟩, rfl, rfl, rfl, ⟨rfl, rfl, rfl, rfl, rfl, rfl⟩, rfl, rfl⟩, fun _ _ => ⟨0, Nat.one_pos, rfl, fun _ => rfl, fun _ _ => ⟨rfl, i4.1.symm, rfl⟩⟩, ⟨⟨rfl, rfl, rfl, Nat.le_refl _, Nat.le_refl _, Nat.le_refl _⟩, rfl, rfl, rfl, rfl, rfl, rfl, rfl, rfl, rfl, rfl, rfl, rfl, rfl, rfl, rfl, rfl⟩, ⟨⟨rfl, rfl, rfl, Nat.le_refl _, Nat.le_refl _, Nat.le_refl _⟩, fun _ _ => ⟨rfl, rfl⟩⟩, ⟨i2, by rw [hF]; exact i3, by rw [hF]; exact oF, by rw [hN]; exact oN1, by rw [hN]; exact oN2⟩, i4, by rw [← hi]; exact i5, i6⟩
end Rc
