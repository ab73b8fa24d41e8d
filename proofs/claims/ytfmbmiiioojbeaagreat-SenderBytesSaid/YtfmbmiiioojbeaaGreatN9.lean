/-
  OWN WORK. Sender: Next, of a sender with one transaction.
-/
import Derived.Test.YtfmbmiiioojbeaaGreatN8
namespace Rc
open Go Go.Proofs Eng
set_option linter.unusedVariables false
set_option linter.unusedSimpArgs false
set_option maxRecDepth 100000
set_option maxHeartbeats 4000000
abbrev snE (bS bM : Nat) : Ent := ⟨600, bS, 0, 6, 1, fun _ => .agg [.int .i64 10, .int .i64 5, .bool false, nilSlice, .map 601 bM 0, .int .i64 1], true, true, 1, 68, false, none⟩
abbrev mpE (bM bT : Nat) : Ent := ⟨601, bM, 0, 0, 1, fun _ => .mobj (fun z => decide (z = 9)) (fun _ => .ptr 602 bT 0 [.elt 0 11]), true, false, 1, 66, false, some fun _ => (bM, 0)⟩
abbrev NxX := Nat × Nat × SX
abbrev nxEnts (x : NxX) : Hp := [snE x.1 x.2.1, mpE x.2.1 x.2.2.bT, trE x.2.2, spE x.2.2]
def nxOk (x : SX) : Prop := spOk x ∧ Sp x.file.length (spL x) ∧ x.file.length ≤ 5000 ∧ 1 ≤ x.name.length ∧ x.name.length ≤ 32
def nxL : LA := ⟨0, NxX, [0], fun x => [.ptr 600 x.1 0 [.elt 0 6]], [600, 601, 602, 603], nxEnts, fun x => nxOk x.2.2, fun _ => 0⟩
def uMe9 (x : SX) : U := ⟨1, 9, x.name, x.file.length, 0, 0, [], 0, 0, false, []⟩
def uDa9 (x : SX) (a m : Int) : U := ⟨2, 9, [], 0, 0, a, (x.file.take m.toNat).drop a.toNat, 0, 0, false, []⟩
def uEn9 (x : SX) : U := ⟨3, 9, [], x.file.length, crc32 x.file, 0, [], 0, 0, false, []⟩
abbrev NxY := SX × List UInt8 × Bool
def nxP (x : NxX) (y : NxY) : Prop := nxOk y.1 ∧ y.1.bT = x.2.2.bT ∧ y.1.name = x.2.2.name ∧ y.1.file = x.2.2.file ∧
  ((x.2.2.me = true ∧ y.2 = (putU (uMe9 x.2.2), true) ∧ y.1.me = false ∧ y.1.en = x.2.2.en ∧ spL y.1 = spL x.2.2) ∨
   (x.2.2.me = false ∧ (∃ a e r, spL x.2.2 = (a, e) :: r ∧ y.2 = (putU (uDa9 x.2.2 a (min e (a + 160))), true) ∧ spL y.1 = (if e ≤ min e (a + 160) then r else (min e (a + 160), e) :: r)) ∧ y.1.me = false ∧ y.1.en = x.2.2.en) ∨
   (x.2.2.me = false ∧ spL x.2.2 = [] ∧ x.2.2.en = true ∧ y.2 = (putU (uEn9 x.2.2), true) ∧ y.1.me = false ∧ y.1.en = false ∧ spL y.1 = []) ∨
   (x.2.2.me = false ∧ spL x.2.2 = [] ∧ x.2.2.en = false ∧ y.2 = ([], false) ∧ y.1.me = false ∧ y.1.en = false ∧ spL y.1 = []))
def nxC := bxC nxL (fun _ => NxY) (fun x y => (.tup [.str y.2.1, .bool y.2.2], nxEnts (x.1, x.2.1, y.1))) nxP
noncomputable def EN0 : Env := (((((((((((((((((E0.addQ 24 eqPt).addQ 75 eqPt).addQ 66 eqMp).addQ 29 eqSl).addP 63 sum32).addP 34 putC).addP 80 lenOne).addE 111 (valsK fun _ => [9])).inl 31 Tryz.f31 fun _ _ => rds 1).inl 81 Tryz.f81 fun _ _ => rds 1).inl 61 Tryz.f61 fun _ _ => rds 1).inl 153 Tryz.f153 fun _ _ => [.unroll 1 2] ++ rds 6).inl 135 Tryz.f135 fun _ _ => [.unroll 2 2] ++ rds 30).inl 112 Tryz.f112 fun _ _ => rds 1).inl 59 Tryz.f59 fun _ _ => rds 3).inl 60 Tryz.f60 fun _ _ => rds 1).inl 36 Tryz.f36 fun _ _ => rds 1)
theorem EN0_ok : EnvOk Tryz.prog EN0 := (((((((((((((((((E0_ok.addQ (eqPt_ok (by kernel_rfl))).addQ (eqPt_ok (by kernel_rfl))).addQ (eqMp_ok Tryz.underlying66)).addQ (eqSl_ok Tryz.underlying29)).addP sumP32_ok).addP put_ok).addP lenOne_ok).addE (valsK_ok fun _ => [9])).inl _ Tryz.func31 rfl (by kernel_rfl)).inl _ Tryz.func81 rfl (by kernel_rfl)).inl _ Tryz.func61 rfl (by kernel_rfl)).inl _ Tryz.func153 rfl (by kernel_rfl)).inl _ Tryz.func135 rfl (by kernel_rfl)).inl _ Tryz.func112 rfl (by kernel_rfl)).inl _ Tryz.func59 rfl (by kernel_rfl)).inl _ Tryz.func60 rfl (by kernel_rfl)).inl _ Tryz.func36 rfl (by kernel_rfl))
noncomputable def ENX : Env := ((EN0.inl 62 Tryz.f62 fun _ _ => []).inl 37 Tryz.f37 fun _ _ => [.draw 5 (.take 0 (.take 1 (.take 2 (.take 3 (.take 4 (.take 5 (.take 6 (.take 7 (.take 8 (.take 9 (.br 10 (.take 11 (.br 12 (.take 13 (.br 14 .fin .stop)) .stop)) .stop))))))))))) [6], .draw 10 (.take 0 (.take 1 (.take 2 (.take 3 (.take 4 (.take 5 (.take 6 (.take 7 (.take 8 (.take 9 (.take 10 (.br 11 (.take 12 (.br 13 (.take 14 (.br 15 .fin .stop)) .stop)) .stop)))))))))))) [6], .draw 13 (.take 0 (.take 1 (.take 2 (.take 3 (.take 4 (.take 5 (.take 6 (.take 7 (.take 8 (.take 9 (.take 10 (.take 11 (.take 12 (.take 13 (.take 14 (.br 15 (.take 16 (.br 17 (.take 18 (.br 19 (.take 20 (.br 21 .fin .stop)) .stop)) .stop)) .stop)))))))))))))))) [6]])
theorem ENX_ok : EnvOk Tryz.prog ENX := ((EN0_ok.inl _ Tryz.func62 rfl (by kernel_rfl)).inl _ Tryz.func37 rfl (by kernel_rfl))
theorem crc_in9 (l : List UInt8) : 0 ≤ crc32 l ∧ crc32 l ≤ 4294967295 := by rw [← sum32_z]; omega
theorem nxp_sp {x : SX} (h : nxOk x) (hn : 0 < x.sn) : 0 ≤ (x.sf x.si).1 ∧ (x.sf x.si).1 < (x.sf x.si).2 ∧ (x.sf x.si).2 ≤ x.file.length :=
  h.2.1.2 (x.sf x.si) (List.mem_map.2 ⟨0, List.mem_range.2 hn, rfl⟩)
theorem spL_cons (x : SX) (hn : 0 < x.sn) : spL x = x.sf x.si :: (List.range (x.sn - 1)).map fun k => x.sf (x.si + 1 + k) := by
  unfold spL
  obtain ⟨m, hm⟩ : ∃ m, x.sn = m + 1 := ⟨x.sn - 1, by omega⟩
  rw [hm, List.range_succ_eq_map, List.map_cons, List.map_map, Nat.add_sub_cancel]
  refine congrArg _ (List.map_congr_left fun k _ => ?_)
  simp only [Function.comp]
  congr 1
  omega
theorem nxp_me {bS bM : Nat} {x : SX} (h : nxOk x) (hm : x.me = true) : nxP (bS, bM, x) (⟨x.bT, x.name, x.file, x.ph, x.tr, x.cl, false, x.en, x.sb, x.so, x.sN, x.si, x.sn, x.sc, x.sz, x.sf⟩, putU (uMe9 x), true) := ⟨h, rfl, rfl, rfl, .inl ⟨hm, rfl, rfl, rfl, rfl⟩⟩
theorem nxp_none {bS bM : Nat} {x : SX} (h : nxOk x) (hm : x.me = false) (hn : x.sn = 0) (he : x.en = false) : nxP (bS, bM, x) (x, [], false) :=
  have e : spL x = [] := by unfold spL; rw [hn]; rfl
  ⟨h, rfl, rfl, rfl, .inr (.inr (.inr ⟨hm, e, he, rfl, hm, he, e⟩))⟩
theorem nxp_end {bS bM : Nat} {x : SX} (h : nxOk x) (hm : x.me = false) (hn : x.sn = 0) (he : x.en = true) (p t c : Int) : nxP (bS, bM, x) (⟨x.bT, x.name, x.file, p, t, c, x.me, false, x.sb, x.so, x.sN, x.si, x.sn, x.sc, x.sz, x.sf⟩, putU (uEn9 x), true) :=
  have e : spL x = [] := by unfold spL; rw [hn]; rfl
  ⟨h, rfl, rfl, rfl, .inr (.inr (.inl ⟨hm, e, he, rfl, hm, rfl, e⟩))⟩
theorem nxp_drop {bS bM : Nat} {x : SX} (h : nxOk x) (hm : x.me = false) (hn : 0 < x.sn) (v : Int) (hv : v = min (x.sf x.si).2 ((x.sf x.si).1 + 160)) (hb : (x.sf x.si).2 ≤ v) : nxP (bS, bM, x) (⟨x.bT, x.name, x.file, x.ph, x.tr, x.cl, x.me, x.en, x.sb, x.so, x.sN, if x.sc = Int.toNat 1 then x.si else x.si + 1, ((x.sn : Int)).toNat - Int.toNat 1, x.sc - Int.toNat 1, x.sz, x.sf⟩, putU (uDa9 x (x.sf x.si).1 v), true) := by
  obtain ⟨⟨h1, h2, h3, h4, h5⟩, hS, h6⟩ := h
  have e1 : Int.toNat 1 = 1 := rfl
  have eL := spL_cons x hn
  have eN : spL ⟨x.bT, x.name, x.file, x.ph, x.tr, x.cl, x.me, x.en, x.sb, x.so, x.sN, if x.sc = Int.toNat 1 then x.si else x.si + 1, ((x.sn : Int)).toNat - Int.toNat 1, x.sc - Int.toNat 1, x.sz, x.sf⟩ = (List.range (x.sn - 1)).map fun k => x.sf (x.si + 1 + k) := by
    unfold spL
    dsimp only
    rw [e1, Int.toNat_natCast]
    split
    · rw [show x.sn - 1 = 0 from by omega]; rfl
    · rfl
  have hd := (drop_is (F := x.file.length) (a := (x.sf x.si).1) (b := (x.sf x.si).2) (by rw [eL] at hS; exact hS) v hv).1
  rw [if_pos hb, ← eN] at hd
  refine ⟨⟨⟨?_, ?_, ?_, ?_, ?_⟩, hd, h6⟩, rfl, rfl, rfl, .inr (.inl ⟨hm, ⟨(x.sf x.si).1, (x.sf x.si).2, _, eL, ?_, ?_⟩, hm, rfl⟩)⟩
  · dsimp only; rw [e1, Int.toNat_natCast]; split <;> omega
  · dsimp only; rw [e1, Int.toNat_natCast]; omega
  · dsimp only; omega
  · dsimp only; intro q; have := h4 q; omega
  · dsimp only; rw [Int.toNat_natCast]; omega
  · dsimp only; rw [hv]
  · dsimp only
    rw [← hv, if_pos hb]
    exact eN
theorem nxp_cut {bS bM : Nat} {x : SX} (h : nxOk x) (hm : x.me = false) (hn : 0 < x.sn) (v : Int) (hv : v = min (x.sf x.si).2 ((x.sf x.si).1 + 160)) (hb : ¬ (x.sf x.si).2 ≤ v) : nxP (bS, bM, x) (⟨x.bT, x.name, x.file, x.ph, x.tr, x.cl, x.me, x.en, x.sb, x.so, x.sN, x.si, x.sn, x.sc, x.sz, fun k => if k = x.si then (v, (x.sf x.si).2) else x.sf k⟩, putU (uDa9 x (x.sf x.si).1 v), true) := by
  obtain ⟨h0, hS, h6⟩ := h
  have eL := spL_cons x hn
  have eN : spL ⟨x.bT, x.name, x.file, x.ph, x.tr, x.cl, x.me, x.en, x.sb, x.so, x.sN, x.si, x.sn, x.sc, x.sz, fun k => if k = x.si then (v, (x.sf x.si).2) else x.sf k⟩ = (v, (x.sf x.si).2) :: (List.range (x.sn - 1)).map fun k => x.sf (x.si + 1 + k) := by
    refine (spL_cons _ (by exact hn)).trans ?_
    dsimp only
    rw [if_pos rfl]
    refine congrArg _ (List.map_congr_left fun k _ => if_neg (by omega))
  have hd := (drop_is (F := x.file.length) (a := (x.sf x.si).1) (b := (x.sf x.si).2) (by rw [eL] at hS; exact hS) v hv).1
  rw [if_neg hb, ← eN] at hd
  refine ⟨⟨h0, hd, h6⟩, rfl, rfl, rfl, .inr (.inl ⟨hm, ⟨(x.sf x.si).1, (x.sf x.si).2, _, eL, ?_, ?_⟩, hm, rfl⟩)⟩
  · dsimp only; rw [hv]
  · dsimp only
    rw [← hv, if_neg hb]
    exact eN
theorem nxp_cutf {i2 i : Nat} {v b : Int} {sf : Nat → P2} : (if i2 = i then v else (sf i2).1) = (if i2 = i then (v, b) else sf i2).1 ∧ (if i2 = i then b else (sf i2).2) = (if i2 = i then (v, b) else sf i2).2 := by
  split <;> exact ⟨rfl, rfl⟩
theorem next_ok : EcOk Tryz.prog 9 nxC := by
  refine bx_run (A := nxL) (fun _ => ENX_ok) Tryz.func9 rfl (by kernel_rfl) 1 rfl (fun _ => rfl) (Nat.le_of_ble_eq_true rfl) (fun x => [.unroll 8 3] ++ rds 15) 700 (fun ⟨bS, bM, ⟨bT, nm, fl, ph, tr, cl, me, en, sb, so, sN, si, sn, sc, sz, sf⟩⟩ hi hw => ?_)
  refine vc_of (q :=
      (false=false→bS=bS∧0=0)∧((if false=true then true else false)=false→bS=bS∧0=0)∧(bS=bS∧0=0)∧(bS=bS∧0=0)∧∀ (b1:Nat), ((∀ (v1:Int), decide (v1=(9:Int))=true↔v1=9)∧(0:Int)≤9∧(9:Int) < 65536)∧0=0∧b1=b1∧0=0∧0 < 1∧bM=bM∧0 < 1∧∀ (y1:Nat × Nat × Nat), 1≤y1.2.2→y1.2.2≤9223372036854775807→IntKind.u64.wrap (↑(1:Nat):Int)=(1:Int)∧(0:Int)≤0∧0 < (↑(1:Nat):Int)∧(y1.1=y1.1∧y1.2.1=y1.2.1)∧0 < 1∧∀ (b2:Nat),
      (bT=bT∧0=0)∧∀ (b3:Nat), (b3=b3∧0=0)∧(bT=bT∧0=0)∧(me=true→(bT=bT∧0=0)∧(bT=bT∧0=0)∧(bT=bT∧0=0)∧∀ (v2:Int), v2=(↑(List.length fl):Int)→((b3=b3∧0=0)∧((b3=b3∧0=0)∧((b3=b3∧0=0)∧(b3=b3∧0=0)∧(b2=b2∧0=0)∧(b2=b2∧0=0)∧∀ (b4:Nat), (b4=b4∧0=0)∧(b4=b4∧0=0)∧true=true∧0≤8796093022208∧((0:Int)≤0∧(0:Int)≤4294967295)∧∃ (x1:SX × List UInt8 × Bool), (putU (uOf ((1:Int), (9:Int), nm, v2, (0:Int), (0:Int), [], (0:Int),
      (0:Int), false, Eng.RowD.mk 0 0 0 0 true fun (x:Nat) ↦ ((0:Int), (0:Int), ()), ()))=x1.2.1∧true=x1.2.2)∧((bS=bS∧0=0∧false=false∧1≤1∧1≤1∧1≤1)∧(10:Int)=10∧(5:Int)=5∧false=false∧(0=0∧0=0∧0=0∧0=0∧0=0∧true=true)∧bM=bM∧(1:Int)=1)∧(∀ (i1:Nat), i1 < 1→(∃ (x2:Nat), x2 < 1∧(bM, 0)=(bM, 0)∧(∀ (v3:Int), decide (v3=(9:Int))=decide (v3=(9:Int)))∧∀ (v4:Int), decide (v4=(9:Int))=true→0=0∧bT=SX.bT
      x1.1∧0=0)∨false=false∧(b1, 0)=(bM, 0)∧0 < 1∧False)∧((bT=SX.bT x1.1∧0=0∧false=false∧1≤1∧1≤1∧1≤1)∧(9:Int)=9∧(1:Int)=1∧nm=SX.name x1.1∧fl=SX.file x1.1∧(0:Int)=0∧ph=SX.ph x1.1∧tr=SX.tr x1.1∧cl=SX.cl x1.1∧false=SX.me x1.1∧en=SX.en x1.1∧sb=SX.sb x1.1∧so=SX.so x1.1∧si=SX.si x1.1∧sn=SX.sn x1.1∧sc=SX.sc x1.1∧sz=SX.sz x1.1)∧((sb=SX.sb x1.1∧so=SX.so x1.1∧sz=SX.sz x1.1∧SX.sN x1.1≤sN∧SX.sN x1.1≤SX.sN x1.1∧SX.sN
      x1.1≤sN)∧∀ (i2:Nat), i2 < SX.sN x1.1→(sf i2).1=(SX.sf x1.1 i2).1∧(sf i2).2=(SX.sf x1.1 i2).2)∧nxOk x1.1∧SX.bT x1.1=bT∧SX.name x1.1=nm∧SX.file x1.1=fl∧(me=true∧x1.2=(putU (uMe9 (SX.mk bT nm fl ph tr cl me en sb so sN si sn sc sz sf)), true)∧SX.me x1.1=false∧SX.en x1.1=en∧spL x1.1=spL (SX.mk bT nm fl ph tr cl me en sb so sN si sn sc sz sf)∨me=false∧(∃ (x2:Int), ∃ (x3:Int), ∃ (x4:List (Int × Int)),
      spL (SX.mk bT nm fl ph tr cl me en sb so sN si sn sc sz sf)=(x2, x3)::x4∧x1.2=(putU (uDa9 (SX.mk bT nm fl ph tr cl me en sb so sN si sn sc sz sf) x2 (Min.min x3 (x2+(160:Int)))), true)∧spL x1.1=if x3≤Min.min x3 (x2+(160:Int)) then x4 else (Min.min x3 (x2+(160:Int)), x3)::x4)∧SX.me x1.1=false∧SX.en x1.1=en∨me=false∧spL (SX.mk bT nm fl ph tr cl me en sb so sN si sn sc sz sf)=[]∧en=true∧x1.2=(putU
      (uEn9 (SX.mk bT nm fl ph tr cl me en sb so sN si sn sc sz sf)), true)∧SX.me x1.1=false∧SX.en x1.1=false∧spL x1.1=[]∨me=false∧spL (SX.mk bT nm fl ph tr cl me en sb so sN si sn sc sz sf)=[]∧en=false∧x1.2=([], false)∧SX.me x1.1=false∧SX.en x1.1=false∧spL x1.1=[]))∧True)∧True)∧True)∧(me=false→(bT=bT∧0=0)∧∀ (v3:Int), v3=(↑sn:Int)→(decide (v3 > (0:Int))=true→(bT=bT∧0=0)∧(0:Int)≤0∧0 <
      (↑sn:Int)∧(sb=sb∧so=so)∧((ixA si (Int.toNat (0:Int)))) < sN∧∀ (b4:Nat), (b4=b4∧0=0)∧(b4=b4∧0=0)∧(b4=b4∧0=0)∧∀ (v4:Int), v4=IntKind.i64.wrap ((sf ((ixA si (Int.toNat (0:Int))))).1+(160:Int))→∀ (v5:Int), (v5=if v4 < (sf ((ixA si (Int.toNat (0:Int))))).2 then v4 else (sf ((ixA si (Int.toNat (0:Int))))).2)→(bT=bT∧0=0)∧(0:Int)≤0∧0 < (↑sn:Int)∧(sb=sb∧so=so)∧((ixA si (Int.toNat (0:Int)))) < sN∧(decide
      ((sf ((ixA si (Int.toNat (0:Int))))).2≤v5)=true→(bT=bT∧0=0)∧0≤(↑sn:Int)∧(↑sn:Int)≤(↑sc:Int)∧(0:Int)≤1∧1≤(↑sn:Int)∧(bT=bT∧0=0)∧(b4=b4∧0=0)∧(bT=bT∧0=0)∧(b4=b4∧0=0)∧0≤v5∧v5≤(↑(List.length fl):Int)∧(0:Int)≤(sf ((ixA si (Int.toNat (0:Int))))).1∧(sf ((ixA si (Int.toNat (0:Int))))).1≤v5∧((b3=b3∧0=0)∧((b3=b3∧0=0)∧((b3=b3∧0=0)∧(b3=b3∧0=0)∧(b2=b2∧0=0)∧(b2=b2∧0=0)∧∀ (b5:Nat),
      (b5=b5∧0=0)∧(b5=b5∧0=0)∧true=true∧0≤8796093022208∧((0:Int)≤0∧(0:Int)≤4294967295)∧∃ (x1:SX × List UInt8 × Bool), (putU (uOf ((2:Int), (9:Int), [], (0:Int), (0:Int), (sf ((ixA si (Int.toNat (0:Int))))).1, List.drop (Int.toNat ((sf ((ixA si (Int.toNat (0:Int))))).1)) (List.take (Int.toNat v5) fl), (0:Int), (0:Int), false, Eng.RowD.mk 0 0 0 0 true fun (x:Nat) ↦ ((0:Int), (0:Int), ()),
      ()))=x1.2.1∧true=x1.2.2)∧((bS=bS∧0=0∧false=false∧1≤1∧1≤1∧1≤1)∧(10:Int)=10∧(5:Int)=5∧false=false∧(0=0∧0=0∧0=0∧0=0∧0=0∧true=true)∧bM=bM∧(1:Int)=1)∧(∀ (i1:Nat), i1 < 1→(∃ (x2:Nat), x2 < 1∧(bM, 0)=(bM, 0)∧(∀ (v6:Int), decide (v6=(9:Int))=decide (v6=(9:Int)))∧∀ (v7:Int), decide (v7=(9:Int))=true→0=0∧bT=SX.bT x1.1∧0=0)∨false=false∧(b1, 0)=(bM, 0)∧0 < 1∧False)∧((bT=SX.bT
      x1.1∧0=0∧false=false∧1≤1∧1≤1∧1≤1)∧(9:Int)=9∧(1:Int)=1∧nm=SX.name x1.1∧fl=SX.file x1.1∧(0:Int)=0∧ph=SX.ph x1.1∧tr=SX.tr x1.1∧cl=SX.cl x1.1∧me=SX.me x1.1∧en=SX.en x1.1∧sb=SX.sb x1.1∧so=SX.so x1.1∧(if sc=Int.toNat (1:Int) then si else (ixA si (Int.toNat (1:Int))))=SX.si x1.1∧Int.toNat (↑sn:Int) - Int.toNat (1:Int)=SX.sn x1.1∧sc - Int.toNat (1:Int)=SX.sc x1.1∧sz=SX.sz x1.1)∧((sb=SX.sb x1.1∧so=SX.so
      x1.1∧sz=SX.sz x1.1∧SX.sN x1.1≤sN∧SX.sN x1.1≤SX.sN x1.1∧SX.sN x1.1≤sN)∧∀ (i2:Nat), i2 < SX.sN x1.1→(sf i2).1=(SX.sf x1.1 i2).1∧(sf i2).2=(SX.sf x1.1 i2).2)∧nxOk x1.1∧SX.bT x1.1=bT∧SX.name x1.1=nm∧SX.file x1.1=fl∧(me=true∧x1.2=(putU (uMe9 (SX.mk bT nm fl ph tr cl me en sb so sN si sn sc sz sf)), true)∧SX.me x1.1=false∧SX.en x1.1=en∧spL x1.1=spL (SX.mk bT nm fl ph tr cl me en sb so sN si sn sc sz
      sf)∨me=false∧(∃ (x2:Int), ∃ (x3:Int), ∃ (x4:List (Int × Int)), spL (SX.mk bT nm fl ph tr cl me en sb so sN si sn sc sz sf)=(x2, x3)::x4∧x1.2=(putU (uDa9 (SX.mk bT nm fl ph tr cl me en sb so sN si sn sc sz sf) x2 (Min.min x3 (x2+(160:Int)))), true)∧spL x1.1=if x3≤Min.min x3 (x2+(160:Int)) then x4 else (Min.min x3 (x2+(160:Int)), x3)::x4)∧SX.me x1.1=false∧SX.en x1.1=en∨me=false∧spL (SX.mk bT nm fl ph
      tr cl me en sb so sN si sn sc sz sf)=[]∧en=true∧x1.2=(putU (uEn9 (SX.mk bT nm fl ph tr cl me en sb so sN si sn sc sz sf)), true)∧SX.me x1.1=false∧SX.en x1.1=false∧spL x1.1=[]∨me=false∧spL (SX.mk bT nm fl ph tr cl me en sb so sN si sn sc sz sf)=[]∧en=false∧x1.2=([], false)∧SX.me x1.1=false∧SX.en x1.1=false∧spL x1.1=[]))∧True)∧True)∧True)∧(decide ((sf ((ixA si (Int.toNat
      (0:Int))))).2≤v5)=false→(bT=bT∧0=0)∧(0:Int)≤0∧0 < (↑sn:Int)∧(sb=sb∧so=so)∧((ixA si (Int.toNat (0:Int)))) < sN∧(b4=b4∧0=0)∧(bT=bT∧0=0)∧(b4=b4∧0=0)∧0≤v5∧v5≤(↑(List.length fl):Int)∧(0:Int)≤(sf ((ixA si (Int.toNat (0:Int))))).1∧(sf ((ixA si (Int.toNat (0:Int))))).1≤v5∧((b3=b3∧0=0)∧((b3=b3∧0=0)∧((b3=b3∧0=0)∧(b3=b3∧0=0)∧(b2=b2∧0=0)∧(b2=b2∧0=0)∧∀ (b6:Nat),
      (b6=b6∧0=0)∧(b6=b6∧0=0)∧true=true∧0≤8796093022208∧((0:Int)≤0∧(0:Int)≤4294967295)∧∃ (x1:SX × List UInt8 × Bool), (putU (uOf ((2:Int), (9:Int), [], (0:Int), (0:Int), (sf ((ixA si (Int.toNat (0:Int))))).1, List.drop (Int.toNat ((sf ((ixA si (Int.toNat (0:Int))))).1)) (List.take (Int.toNat v5) fl), (0:Int), (0:Int), false, Eng.RowD.mk 0 0 0 0 true fun (x:Nat) ↦ ((0:Int), (0:Int), ()),
      ()))=x1.2.1∧true=x1.2.2)∧((bS=bS∧0=0∧false=false∧1≤1∧1≤1∧1≤1)∧(10:Int)=10∧(5:Int)=5∧false=false∧(0=0∧0=0∧0=0∧0=0∧0=0∧true=true)∧bM=bM∧(1:Int)=1)∧(∀ (i1:Nat), i1 < 1→(∃ (x2:Nat), x2 < 1∧(bM, 0)=(bM, 0)∧(∀ (v6:Int), decide (v6=(9:Int))=decide (v6=(9:Int)))∧∀ (v7:Int), decide (v7=(9:Int))=true→0=0∧bT=SX.bT x1.1∧0=0)∨false=false∧(b1, 0)=(bM, 0)∧0 < 1∧False)∧((bT=SX.bT
      x1.1∧0=0∧false=false∧1≤1∧1≤1∧1≤1)∧(9:Int)=9∧(1:Int)=1∧nm=SX.name x1.1∧fl=SX.file x1.1∧(0:Int)=0∧ph=SX.ph x1.1∧tr=SX.tr x1.1∧cl=SX.cl x1.1∧me=SX.me x1.1∧en=SX.en x1.1∧sb=SX.sb x1.1∧so=SX.so x1.1∧si=SX.si x1.1∧sn=SX.sn x1.1∧sc=SX.sc x1.1∧sz=SX.sz x1.1)∧((sb=SX.sb x1.1∧so=SX.so x1.1∧sz=SX.sz x1.1∧SX.sN x1.1≤sN∧SX.sN x1.1≤SX.sN x1.1∧SX.sN x1.1≤sN)∧∀ (i2:Nat), i2 < SX.sN x1.1→(if i2=(ixA si (Int.toNat
      (0:Int))) then v5 else (sf i2).1)=(SX.sf x1.1 i2).1∧(if i2=(ixA si (Int.toNat (0:Int))) then (sf ((ixA si (Int.toNat (0:Int))))).2 else (sf i2).2)=(SX.sf x1.1 i2).2)∧nxOk x1.1∧SX.bT x1.1=bT∧SX.name x1.1=nm∧SX.file x1.1=fl∧(me=true∧x1.2=(putU (uMe9 (SX.mk bT nm fl ph tr cl me en sb so sN si sn sc sz sf)), true)∧SX.me x1.1=false∧SX.en x1.1=en∧spL x1.1=spL (SX.mk bT nm fl ph tr cl me en sb so sN si sn
      sc sz sf)∨me=false∧(∃ (x2:Int), ∃ (x3:Int), ∃ (x4:List (Int × Int)), spL (SX.mk bT nm fl ph tr cl me en sb so sN si sn sc sz sf)=(x2, x3)::x4∧x1.2=(putU (uDa9 (SX.mk bT nm fl ph tr cl me en sb so sN si sn sc sz sf) x2 (Min.min x3 (x2+(160:Int)))), true)∧spL x1.1=if x3≤Min.min x3 (x2+(160:Int)) then x4 else (Min.min x3 (x2+(160:Int)), x3)::x4)∧SX.me x1.1=false∧SX.en x1.1=en∨me=false∧spL (SX.mk bT nm
      fl ph tr cl me en sb so sN si sn sc sz sf)=[]∧en=true∧x1.2=(putU (uEn9 (SX.mk bT nm fl ph tr cl me en sb so sN si sn sc sz sf)), true)∧SX.me x1.1=false∧SX.en x1.1=false∧spL x1.1=[]∨me=false∧spL (SX.mk bT nm fl ph tr cl me en sb so sN si sn sc sz sf)=[]∧en=false∧x1.2=([], false)∧SX.me x1.1=false∧SX.en x1.1=false∧spL x1.1=[]))∧True)∧True)∧True))∧(decide (v3 >
      (0:Int))=false→(bT=bT∧0=0)∧(en=true→(bT=bT∧0=0)∧(bT=bT∧0=0)∧(bT=bT∧0=0)∧∀ (v4:Int), v4=(↑(List.length fl):Int)→(bT=bT∧0=0)∧∀ (v5:Int), v5=crc32 fl→((b3=b3∧0=0)∧((b3=b3∧0=0)∧((b3=b3∧0=0)∧((b3=b3∧0=0)∧(bT=bT∧0=0)∧((ph==(1:Int))=true→(bT=bT∧0=0)∧(bT=bT∧0=0)∧(bS=bS∧0=0)∧(bT=bT∧0=0)∧(b3=b3∧0=0)∧(b2=b2∧0=0)∧(b2=b2∧0=0)∧∀ (b5:Nat), (b5=b5∧0=0)∧(b5=b5∧0=0)∧true=true∧0≤8796093022208∧(0≤v5∧v5≤4294967295)∧∃
      (x1:SX × List UInt8 × Bool), (putU (uOf ((3:Int), (9:Int), [], v4, v5, (0:Int), [], (0:Int), (0:Int), false, Eng.RowD.mk 0 0 0 0 true fun (x:Nat) ↦ ((0:Int), (0:Int), ()), ()))=x1.2.1∧true=x1.2.2)∧((bS=bS∧0=0∧false=false∧1≤1∧1≤1∧1≤1)∧(10:Int)=10∧(5:Int)=5∧false=false∧(0=0∧0=0∧0=0∧0=0∧0=0∧true=true)∧bM=bM∧(1:Int)=1)∧(∀ (i1:Nat), i1 < 1→(∃ (x2:Nat), x2 < 1∧(bM, 0)=(bM, 0)∧(∀ (v6:Int), decide
      (v6=(9:Int))=decide (v6=(9:Int)))∧∀ (v7:Int), decide (v7=(9:Int))=true→0=0∧bT=SX.bT x1.1∧0=0)∨false=false∧(b1, 0)=(bM, 0)∧0 < 1∧False)∧((bT=SX.bT x1.1∧0=0∧false=false∧1≤1∧1≤1∧1≤1)∧(9:Int)=9∧(1:Int)=1∧nm=SX.name x1.1∧fl=SX.file x1.1∧(0:Int)=0∧(2:Int)=SX.ph x1.1∧(1:Int)=SX.tr x1.1∧(10:Int)=SX.cl x1.1∧me=SX.me x1.1∧false=SX.en x1.1∧sb=SX.sb x1.1∧so=SX.so x1.1∧si=SX.si x1.1∧sn=SX.sn x1.1∧sc=SX.sc
      x1.1∧sz=SX.sz x1.1)∧((sb=SX.sb x1.1∧so=SX.so x1.1∧sz=SX.sz x1.1∧SX.sN x1.1≤sN∧SX.sN x1.1≤SX.sN x1.1∧SX.sN x1.1≤sN)∧∀ (i2:Nat), i2 < SX.sN x1.1→(sf i2).1=(SX.sf x1.1 i2).1∧(sf i2).2=(SX.sf x1.1 i2).2)∧nxOk x1.1∧SX.bT x1.1=bT∧SX.name x1.1=nm∧SX.file x1.1=fl∧(me=true∧x1.2=(putU (uMe9 (SX.mk bT nm fl ph tr cl me en sb so sN si sn sc sz sf)), true)∧SX.me x1.1=false∧SX.en x1.1=en∧spL x1.1=spL (SX.mk bT
      nm fl ph tr cl me en sb so sN si sn sc sz sf)∨me=false∧(∃ (x2:Int), ∃ (x3:Int), ∃ (x4:List (Int × Int)), spL (SX.mk bT nm fl ph tr cl me en sb so sN si sn sc sz sf)=(x2, x3)::x4∧x1.2=(putU (uDa9 (SX.mk bT nm fl ph tr cl me en sb so sN si sn sc sz sf) x2 (Min.min x3 (x2+(160:Int)))), true)∧spL x1.1=if x3≤Min.min x3 (x2+(160:Int)) then x4 else (Min.min x3 (x2+(160:Int)), x3)::x4)∧SX.me
      x1.1=false∧SX.en x1.1=en∨me=false∧spL (SX.mk bT nm fl ph tr cl me en sb so sN si sn sc sz sf)=[]∧en=true∧x1.2=(putU (uEn9 (SX.mk bT nm fl ph tr cl me en sb so sN si sn sc sz sf)), true)∧SX.me x1.1=false∧SX.en x1.1=false∧spL x1.1=[]∨me=false∧spL (SX.mk bT nm fl ph tr cl me en sb so sN si sn sc sz sf)=[]∧en=false∧x1.2=([], false)∧SX.me x1.1=false∧SX.en x1.1=false∧spL
      x1.1=[]))∧((ph==(1:Int))=false→(bS=bS∧0=0)∧(bT=bT∧0=0)∧(b3=b3∧0=0)∧(b2=b2∧0=0)∧(b2=b2∧0=0)∧∀ (b6:Nat), (b6=b6∧0=0)∧(b6=b6∧0=0)∧true=true∧0≤8796093022208∧(0≤v5∧v5≤4294967295)∧∃ (x1:SX × List UInt8 × Bool), (putU (uOf ((3:Int), (9:Int), [], v4, v5, (0:Int), [], (0:Int), (0:Int), false, Eng.RowD.mk 0 0 0 0 true fun (x:Nat) ↦ ((0:Int), (0:Int), ()),
      ()))=x1.2.1∧true=x1.2.2)∧((bS=bS∧0=0∧false=false∧1≤1∧1≤1∧1≤1)∧(10:Int)=10∧(5:Int)=5∧false=false∧(0=0∧0=0∧0=0∧0=0∧0=0∧true=true)∧bM=bM∧(1:Int)=1)∧(∀ (i1:Nat), i1 < 1→(∃ (x2:Nat), x2 < 1∧(bM, 0)=(bM, 0)∧(∀ (v6:Int), decide (v6=(9:Int))=decide (v6=(9:Int)))∧∀ (v7:Int), decide (v7=(9:Int))=true→0=0∧bT=SX.bT x1.1∧0=0)∨false=false∧(b1, 0)=(bM, 0)∧0 < 1∧False)∧((bT=SX.bT
      x1.1∧0=0∧false=false∧1≤1∧1≤1∧1≤1)∧(9:Int)=9∧(1:Int)=1∧nm=SX.name x1.1∧fl=SX.file x1.1∧(0:Int)=0∧ph=SX.ph x1.1∧tr=SX.tr x1.1∧(10:Int)=SX.cl x1.1∧me=SX.me x1.1∧false=SX.en x1.1∧sb=SX.sb x1.1∧so=SX.so x1.1∧si=SX.si x1.1∧sn=SX.sn x1.1∧sc=SX.sc x1.1∧sz=SX.sz x1.1)∧((sb=SX.sb x1.1∧so=SX.so x1.1∧sz=SX.sz x1.1∧SX.sN x1.1≤sN∧SX.sN x1.1≤SX.sN x1.1∧SX.sN x1.1≤sN)∧∀ (i2:Nat), i2 < SX.sN x1.1→(sf i2).1=(SX.sf
      x1.1 i2).1∧(sf i2).2=(SX.sf x1.1 i2).2)∧nxOk x1.1∧SX.bT x1.1=bT∧SX.name x1.1=nm∧SX.file x1.1=fl∧(me=true∧x1.2=(putU (uMe9 (SX.mk bT nm fl ph tr cl me en sb so sN si sn sc sz sf)), true)∧SX.me x1.1=false∧SX.en x1.1=en∧spL x1.1=spL (SX.mk bT nm fl ph tr cl me en sb so sN si sn sc sz sf)∨me=false∧(∃ (x2:Int), ∃ (x3:Int), ∃ (x4:List (Int × Int)), spL (SX.mk bT nm fl ph tr cl me en sb so sN si sn sc sz
      sf)=(x2, x3)::x4∧x1.2=(putU (uDa9 (SX.mk bT nm fl ph tr cl me en sb so sN si sn sc sz sf) x2 (Min.min x3 (x2+(160:Int)))), true)∧spL x1.1=if x3≤Min.min x3 (x2+(160:Int)) then x4 else (Min.min x3 (x2+(160:Int)), x3)::x4)∧SX.me x1.1=false∧SX.en x1.1=en∨me=false∧spL (SX.mk bT nm fl ph tr cl me en sb so sN si sn sc sz sf)=[]∧en=true∧x1.2=(putU (uEn9 (SX.mk bT nm fl ph tr cl me en sb so sN si sn sc sz
      sf)), true)∧SX.me x1.1=false∧SX.en x1.1=false∧spL x1.1=[]∨me=false∧spL (SX.mk bT nm fl ph tr cl me en sb so sN si sn sc sz sf)=[]∧en=false∧x1.2=([], false)∧SX.me x1.1=false∧SX.en x1.1=false∧spL x1.1=[])))∧True)∧True)∧True)∧True)∧(en=false→(b2=b2∧0=0)∧(b2=b2∧0=0)∧∀ (b5:Nat), (b5=b5∧0=0)∧∃ (x1:SX × List UInt8 × Bool),
      ([]=x1.2.1∧false=x1.2.2)∧((bS=bS∧0=0∧false=false∧1≤1∧1≤1∧1≤1)∧(10:Int)=10∧(5:Int)=5∧false=false∧(0=0∧0=0∧0=0∧0=0∧0=0∧true=true)∧bM=bM∧(1:Int)=1)∧(∀ (i1:Nat), i1 < 1→(∃ (x2:Nat), x2 < 1∧(bM, 0)=(bM, 0)∧(∀ (v5:Int), decide (v5=(9:Int))=decide (v5=(9:Int)))∧∀ (v6:Int), decide (v6=(9:Int))=true→0=0∧bT=SX.bT x1.1∧0=0)∨false=false∧(b1, 0)=(bM, 0)∧0 < 1∧False)∧((bT=SX.bT
      x1.1∧0=0∧false=false∧1≤1∧1≤1∧1≤1)∧(9:Int)=9∧(1:Int)=1∧nm=SX.name x1.1∧fl=SX.file x1.1∧(0:Int)=0∧ph=SX.ph x1.1∧tr=SX.tr x1.1∧cl=SX.cl x1.1∧me=SX.me x1.1∧en=SX.en x1.1∧sb=SX.sb x1.1∧so=SX.so x1.1∧si=SX.si x1.1∧sn=SX.sn x1.1∧sc=SX.sc x1.1∧sz=SX.sz x1.1)∧((sb=SX.sb x1.1∧so=SX.so x1.1∧sz=SX.sz x1.1∧SX.sN x1.1≤sN∧SX.sN x1.1≤SX.sN x1.1∧SX.sN x1.1≤sN)∧∀ (i2:Nat), i2 < SX.sN x1.1→(sf i2).1=(SX.sf x1.1
      i2).1∧(sf i2).2=(SX.sf x1.1 i2).2)∧nxOk x1.1∧SX.bT x1.1=bT∧SX.name x1.1=nm∧SX.file x1.1=fl∧(me=true∧x1.2=(putU (uMe9 (SX.mk bT nm fl ph tr cl me en sb so sN si sn sc sz sf)), true)∧SX.me x1.1=false∧SX.en x1.1=en∧spL x1.1=spL (SX.mk bT nm fl ph tr cl me en sb so sN si sn sc sz sf)∨me=false∧(∃ (x2:Int), ∃ (x3:Int), ∃ (x4:List (Int × Int)), spL (SX.mk bT nm fl ph tr cl me en sb so sN si sn sc sz
      sf)=(x2, x3)::x4∧x1.2=(putU (uDa9 (SX.mk bT nm fl ph tr cl me en sb so sN si sn sc sz sf) x2 (Min.min x3 (x2+(160:Int)))), true)∧spL x1.1=if x3≤Min.min x3 (x2+(160:Int)) then x4 else (Min.min x3 (x2+(160:Int)), x3)::x4)∧SX.me x1.1=false∧SX.en x1.1=en∨me=false∧spL (SX.mk bT nm fl ph tr cl me en sb so sN si sn sc sz sf)=[]∧en=true∧x1.2=(putU (uEn9 (SX.mk bT nm fl ph tr cl me en sb so sN si sn sc sz
      sf)), true)∧SX.me x1.1=false∧SX.en x1.1=false∧spL x1.1=[]∨me=false∧spL (SX.mk bT nm fl ph tr cl me en sb so sN si sn sc sz sf)=[]∧en=false∧x1.2=([], false)∧SX.me x1.1=false∧SX.en x1.1=false∧spL x1.1=[]))))) (by kernel_rfl) ?_
  have hO : nxOk ⟨bT, nm, fl, ph, tr, cl, me, en, sb, so, sN, si, sn, sc, sz, sf⟩ := hi
  have hG := fun hn => nxp_sp hO hn
  obtain ⟨⟨o1, o2, o3, o4, o5⟩, oS, oF, oN1, oN2⟩ := hi
  dsimp only at o1 o2 o3 o4 o5 oS oF oN1 oN2 hG
  have hcr : 0 ≤ crc32 fl ∧ crc32 fl ≤ 4294967295 := crc_in9 fl
  have hG : 0 < sn → 0 ≤ (sf (ixA si (Int.toNat 0))).1 ∧ (sf (ixA si (Int.toNat 0))).1 < (sf (ixA si (Int.toNat 0))).2 ∧ (sf (ixA si (Int.toNat 0))).2 ≤ fl.length := by rw [show ixA si (Int.toNat 0) = si from by cases si <;> rfl]; exact hG
  have hq : ∀ {v3 v4 v5 : Int}, decide (v3 > 0) = true → v3 = (sn : Int) → v4 = IntKind.i64.wrap ((sf (ixA si (Int.toNat 0))).1 + 160) → v5 = (if v4 < (sf (ixA si (Int.toNat 0))).2 then v4 else (sf (ixA si (Int.toNat 0))).2) → 0 < sn ∧ v5 = min (sf (ixA si (Int.toNat 0))).2 ((sf (ixA si (Int.toNat 0))).1 + 160) := fun h1 h2 h3 h4 => by
    have h1 := of_decide_eq_true h1
    have hn : 0 < sn := by omega
    have := hG hn
    rw [w64_id (by omega) (by omega)] at h3
    refine ⟨hn, ?_⟩
    rw [h4, h3]
    split <;> omega
  have hz : ∀ {v3 : Int}, decide (v3 > 0) = false → v3 = (sn : Int) → sn = 0 := fun h1 h2 => by
    have h1 := of_decide_eq_false h1
    omega
  have hq0 : ∀ {v3 : Int}, decide (v3 > 0) = true → v3 = (sn : Int) → 0 < sn := fun h1 h2 => by
    have h1 := of_decide_eq_true h1
    omega
  have hq1 : ∀ {v3 v4 v5 : Int}, decide (v3 > 0) = true → v3 = (sn : Int) → v4 = IntKind.i64.wrap ((sf (ixA si (Int.toNat 0))).1 + 160) → v5 = (if v4 < (sf (ixA si (Int.toNat 0))).2 then v4 else (sf (ixA si (Int.toNat 0))).2) → 0 ≤ v5 ∧ v5 ≤ fl.length ∧ 0 ≤ (sf (ixA si (Int.toNat 0))).1 ∧ (sf (ixA si (Int.toNat 0))).1 ≤ v5 := fun h1 h2 h3 h4 => by
    obtain ⟨hn, h5⟩ := hq h1 h2 h3 h4
    have := hG hn
    omega
  cases si
  all_goals
    dsimp only [ixA] at o1 oS hG hq hq1 ⊢
    repeat' (first | with_reducible exact rfl | exact trivial | exact Nat.le_refl _ | refine And.intro ?_ ?_ | intro _)
    all_goals (first | omega | contradiction | assumption | skip)
    all_goals try (first | exact decide_eq_true_iff | exact (rfl : IntKind.u64.wrap 1 = 1))
    all_goals try (rename_i e3 hv _; have := hq0 hv e3; omega)
    all_goals try (rename_i e3 hv _ _ _; have := hq0 hv e3; omega)
    all_goals try (rename_i e3 hv _ _ e4 _ e5; have := hq0 hv e3; omega)
    all_goals try (rename_i e3 hv _ _ e4 _ e5 _; have := hq0 hv e3; omega)
    all_goals try (rename_i e3 hv _ _ e4 _ e5 _; have := hq1 hv e3 e4 e5; omega)
    all_goals try (rename_i e3 hv; have := hq0 hv e3; omega)
    all_goals try (rename_i e5 _; subst e5; exact hcr.1)
    all_goals try (rename_i e5 _; subst e5; exact hcr.2)
    all_goals try (rename_i e5 _ _; subst e5; first | exact hcr.1 | exact hcr.2)
    · rename_i hm v2 e2 b4
      subst e2
      exact ⟨(_, _, _), ⟨rfl, rfl⟩, ⟨⟨rfl, rfl, rfl, Nat.le_refl _, Nat.le_refl _, Nat.le_refl _⟩, rfl, rfl, rfl, ⟨rfl, rfl, rfl, rfl, rfl, rfl⟩, rfl, rfl⟩, fun _ _ => .inl ⟨0, Nat.one_pos, rfl, fun _ => rfl, fun _ _ => ⟨rfl, rfl, rfl⟩⟩, ⟨⟨rfl, rfl, rfl, Nat.le_refl _, Nat.le_refl _, Nat.le_refl _⟩, rfl, rfl, rfl, rfl, rfl, rfl, rfl, rfl, rfl, rfl, rfl, rfl, rfl, rfl, rfl, rfl⟩, ⟨⟨rfl, rfl, rfl, Nat.le_refl _, Nat.le_refl _, Nat.le_refl _⟩, fun _ _ => ⟨rfl, rfl⟩⟩, nxp_me (bS := bS) (bM := bM) hO hm⟩
    · rename_i hm v3 e3 hv b4 v4 e4 v5 e5 hb b5
      obtain ⟨hn, hv5⟩ := hq hv e3 e4 e5
      exact ⟨(_, _, _), ⟨rfl, rfl⟩, ⟨⟨rfl, rfl, rfl, Nat.le_refl _, Nat.le_refl _, Nat.le_refl _⟩, rfl, rfl, rfl, ⟨rfl, rfl, rfl, rfl, rfl, rfl⟩, rfl, rfl⟩, fun _ _ => .inl ⟨0, Nat.one_pos, rfl, fun _ => rfl, fun _ _ => ⟨rfl, rfl, rfl⟩⟩, ⟨⟨rfl, rfl, rfl, Nat.le_refl _, Nat.le_refl _, Nat.le_refl _⟩, rfl, rfl, rfl, rfl, rfl, rfl, rfl, rfl, rfl, rfl, rfl, rfl, rfl, rfl, rfl, rfl⟩, ⟨⟨rfl, rfl, rfl, Nat.le_refl _, Nat.le_refl _, Nat.le_refl _⟩, fun _ _ => ⟨rfl, rfl⟩⟩, nxp_drop (bS := bS) (bM := bM) hO hm hn v5 hv5 (of_decide_eq_true hb)⟩
    · rename_i hm v3 e3 hv b4 v4 e4 v5 e5 hb b5
      obtain ⟨hn, hv5⟩ := hq hv e3 e4 e5
      exact ⟨(_, _, _), ⟨rfl, rfl⟩, ⟨⟨rfl, rfl, rfl, Nat.le_refl _, Nat.le_refl _, Nat.le_refl _⟩, rfl, rfl, rfl, ⟨rfl, rfl, rfl, rfl, rfl, rfl⟩, rfl, rfl⟩, fun _ _ => .inl ⟨0, Nat.one_pos, rfl, fun _ => rfl, fun _ _ => ⟨rfl, rfl, rfl⟩⟩, ⟨⟨rfl, rfl, rfl, Nat.le_refl _, Nat.le_refl _, Nat.le_refl _⟩, rfl, rfl, rfl, rfl, rfl, rfl, rfl, rfl, rfl, rfl, rfl, rfl, rfl, rfl, rfl, rfl⟩, ⟨⟨rfl, rfl, rfl, Nat.le_refl _, Nat.le_refl _, Nat.le_refl _⟩, fun i2 _ => nxp_cutf⟩, nxp_cut (bS := bS) (bM := bM) hO hm hn v5 hv5 (of_decide_eq_false hb)⟩
    · rename_i hm v3 e3 hv he v4 e4 v5 e5 hp b5
      subst e4 e5
      exact ⟨(_, _, _), ⟨rfl, rfl⟩, ⟨⟨rfl, rfl, rfl, Nat.le_refl _, Nat.le_refl _, Nat.le_refl _⟩, rfl, rfl, rfl, ⟨rfl, rfl, rfl, rfl, rfl, rfl⟩, rfl, rfl⟩, fun _ _ => .inl ⟨0, Nat.one_pos, rfl, fun _ => rfl, fun _ _ => ⟨rfl, rfl, rfl⟩⟩, ⟨⟨rfl, rfl, rfl, Nat.le_refl _, Nat.le_refl _, Nat.le_refl _⟩, rfl, rfl, rfl, rfl, rfl, rfl, rfl, rfl, rfl, rfl, rfl, rfl, rfl, rfl, rfl, rfl⟩, ⟨⟨rfl, rfl, rfl, Nat.le_refl _, Nat.le_refl _, Nat.le_refl _⟩, fun _ _ => ⟨rfl, rfl⟩⟩, nxp_end (bS := bS) (bM := bM) hO hm (hz hv e3) he 2 1 10⟩
    · rename_i hm v3 e3 hv he v4 e4 v5 e5 hp b5
      subst e4 e5
      exact ⟨(_, _, _), ⟨rfl, rfl⟩, ⟨⟨rfl, rfl, rfl, Nat.le_refl _, Nat.le_refl _, Nat.le_refl _⟩, rfl, rfl, rfl, ⟨rfl, rfl, rfl, rfl, rfl, rfl⟩, rfl, rfl⟩, fun _ _ => .inl ⟨0, Nat.one_pos, rfl, fun _ => rfl, fun _ _ => ⟨rfl, rfl, rfl⟩⟩, ⟨⟨rfl, rfl, rfl, Nat.le_refl _, Nat.le_refl _, Nat.le_refl _⟩, rfl, rfl, rfl, rfl, rfl, rfl, rfl, rfl, rfl, rfl, rfl, rfl, rfl, rfl, rfl, rfl⟩, ⟨⟨rfl, rfl, rfl, Nat.le_refl _, Nat.le_refl _, Nat.le_refl _⟩, fun _ _ => ⟨rfl, rfl⟩⟩, nxp_end (bS := bS) (bM := bM) hO hm (hz hv e3) he ph tr 10⟩
    · rename_i hm v3 e3 hv he b5
      exact ⟨(_, _, _), ⟨rfl, rfl⟩, ⟨⟨rfl, rfl, rfl, Nat.le_refl _, Nat.le_refl _, Nat.le_refl _⟩, rfl, rfl, rfl, ⟨rfl, rfl, rfl, rfl, rfl, rfl⟩, rfl, rfl⟩, fun _ _ => .inl ⟨0, Nat.one_pos, rfl, fun _ => rfl, fun _ _ => ⟨rfl, rfl, rfl⟩⟩, ⟨⟨rfl, rfl, rfl, Nat.le_refl _, Nat.le_refl _, Nat.le_refl _⟩, rfl, rfl, rfl, rfl, rfl, rfl, rfl, rfl, rfl, rfl, rfl, rfl, rfl, rfl, rfl, rfl⟩, ⟨⟨rfl, rfl, rfl, Nat.le_refl _, Nat.le_refl _, Nat.le_refl _⟩, fun _ _ => ⟨rfl, rfl⟩⟩, nxp_none (bS := bS) (bM := bM) hO hm (hz hv e3) he⟩
end Rc
