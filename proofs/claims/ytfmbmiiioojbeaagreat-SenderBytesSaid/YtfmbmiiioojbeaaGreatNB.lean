/-
  OWN WORK. Sender: New, Send of the first file, Open, as contracts.
-/
import Derived.Test.YtfmbmiiioojbeaaGreatNA
namespace Rc
open Go Go.Proofs Eng
set_option linter.unusedVariables false
set_option linter.unusedSimpArgs false
set_option maxRecDepth 100000
set_option maxHeartbeats 4000000
abbrev snE0 (bS bM : Nat) (k : Int) : Ent := ⟨600, bS, 0, 6, 1, fun _ => .agg [.int .i64 10, .int .i64 5, .bool false, nilSlice, .map 601 bM 0, .int .i64 k], true, true, 1, 68, false, none⟩
abbrev mpE0 (bM : Nat) : Ent := ⟨601, bM, 0, 0, 1, fun _ => .mobj (fun _ => false) (fun _ => .val (.pointer none)), true, false, 1, 66, false, some fun _ => (bM, 0)⟩
/-! ### Send -/
abbrev SdX := Nat × Nat × List UInt8 × List UInt8
def sdL : LA := ⟨0, SdX, [0, 1, 2, 3], fun x => [.ptr 600 x.1 0 [.elt 0 6], .int .i64 9, .str x.2.2.1, .str x.2.2.2], [600, 601], fun x => [snE0 x.1 x.2.1 0, mpE0 x.2.1], fun x => 1 ≤ x.2.2.1.length ∧ x.2.2.1.length ≤ 32 ∧ x.2.2.2.length ≤ 5000, fun _ => 0⟩
def sdP (x : SdX) (y : SX) : Prop := nxOk y ∧ y.name = x.2.2.1 ∧ y.file = x.2.2.2 ∧ y.me = true ∧ y.en = true ∧ y.sn ≤ 1 ∧ ∀ z, inL (spL y) z ↔ 0 ≤ z ∧ z < x.2.2.2.length
def sdC := bxC sdL (fun _ => SX) (fun x y => (.int .i64 0, nxEnts (x.1, x.2.1, y))) sdP
abbrev s00 (nm fl : List UInt8) (b : Nat) : SX := ⟨b, nm, fl, 1, 0, 0, true, true, 0, 0, 0, 0, 0, 0, true, fun _ => (0, 0)⟩
def joinS (bS bM : Nat) (nm fl : List UInt8) (fr : Fr) (H : Hp) : LA := ⟨11, Nat, [0, 9], fun y => [.ptr 600 bS 0 [.elt 0 6], .ptr 602 y 0 [.elt 0 11]], [600, 601, 602, 603], fun y => [snE0 bS bM 1, mpE0 bM, trE (s00 nm fl y), spE (s00 nm fl y)], fun _ => True, fun _ => 0⟩
noncomputable def ESD : Env := ((((((E0.addQ 24 eqPt).addQ 75 eqPt).addQ 66 eqMp).addP 32 cloneC).addE 33 addC).inl 31 Tryz.f31 fun _ _ => rds 1)
theorem ESD_ok : EnvOk Tryz.prog ESD := ((((((E0_ok.addQ (eqPt_ok (by kernel_rfl))).addQ (eqPt_ok (by kernel_rfl))).addQ (eqMp_ok Tryz.underlying66)).addP clone_ok).addE add_ok).inl _ Tryz.func31 rfl (by kernel_rfl))
theorem sd_end {bS bM b : Nat} {nm fl : List UInt8} (n1 : 1 ≤ nm.length) (n2 : nm.length ≤ 32) (f1 : fl.length ≤ 5000) {y : SX} (h : addP (s00 nm fl b, 0, (fl.length : Int)) y) : sdP (bS, bM, nm, fl) y := by
  obtain ⟨h1, h2, h3, h4⟩ := h
  have hs : Sp (fl.length : Int) (spL (s00 nm fl b)) := ⟨List.Pairwise.nil, fun _ h => by cases h⟩
  have h3 : AddIs (fl.length : Int) (spL (s00 nm fl b)) 0 fl.length (spL y) := h3
  obtain ⟨k1, k2⟩ := add_is hs (Int.le_refl 0) (Int.le_refl _) h3
  have hF : y.file = fl := h2.2.2.1
  have hN : y.name = nm := h2.2.1
  refine ⟨⟨h1, by rw [hF]; exact k1, by rw [hF]; exact f1, by rw [hN]; exact n1, by rw [hN]; exact n2⟩, hN, hF, h2.2.2.2.2.2.2.1, h2.2.2.2.2.2.2.2, h4, fun z => ?_⟩
  rw [k2 z]
  exact ⟨fun q => q.elim (fun ⟨_, q, _⟩ => by cases q) id, .inr⟩
theorem send_ok : EcOk Tryz.prog 8 sdC := by
  refine bx_run (A := sdL) (fun _ => ESD_ok) Tryz.func8 rfl (by kernel_rfl) 4 rfl (fun _ => rfl) (Nat.le_of_ble_eq_true rfl) (fun x => [.joinD 11 (joinS x.1 x.2.1 x.2.2.1 x.2.2.2) 760, .draw 10 (.take 0 (.take 1 (.take 2 (.take 3 (.take 4 (.take 5 (.take 6 (.take 7 (.take 8 (.take 9 (.br 10 (.take 11 .fin) .stop))))))))))) []] ++ [.raw 0, .raw 1, .raw 5, .raw 9, .raw 10, .raw 12, .raw 13, .det 2, .det 6, .sure 5]) 700 (fun ⟨bS, bM, nm, fl⟩ hi hw => ?_)
  refine vc_of (q :=
      (false=false→bS=bS∧0=0)∧∀ (t1:Bool), (t1=if decide ((9:Int) < 0)=true then true else decide ((9:Int)≥65536))→∀ (t2:Bool), (t2=if t1=true then true else nm==[])→∀ (v1:Int), v1=(↑(List.length nm):Int)→∀ (t3:Bool), (t3=if t2=true then true else decide (v1 > (32:Int)))→∀ (v2:Int), v2=(↑(List.length fl):Int)→∀ (t4:Bool), (t4=if t3=true then true else decide (v2 > (65535:Int)))→(t4=true→∃ (x1:SX),
      (2:Int)=0∧((bS=bS∧0=0∧false=false∧1≤1∧1≤1∧1≤1)∧(10:Int)=10∧(5:Int)=5∧false=false∧(0=0∧0=0∧0=0∧0=0∧0=0∧true=true)∧bM=bM∧(0:Int)=1)∧(∀ (i1:Nat), i1 < 1→∃ (x2:Nat), x2 < 1∧(bM, 0)=(bM, 0)∧(∀ (v3:Int), false=decide (v3=(9:Int)))∧∀ (v4:Int), false=true→SVeq (SV.val (Go.Value.pointer Option.none)) (SV.ptr 602 (SX.bT x1) 0 [PS.elt 0 11]))∧(false=true∧1=0∧1=0)∧(SX.sz x1=true∧SX.sN x1=0∧SX.sN x1=0)∧nxOk
      x1∧SX.name x1=nm∧SX.file x1=fl∧SX.me x1=true∧SX.en x1=true∧SX.sn x1≤1∧∀ (v3:Int), inL (spL x1) v3↔0≤v3∧v3 < (↑(List.length fl):Int))∧(t4=false→(bS=bS∧0=0)∧bM=bM∧0 < 1∧(bS=bS∧0=0)∧bM=bM∧0 < 1∧∀ (b1:Nat), (∃ (l:List Int), List.Nodup l∧(∀ (x:Int), false=true↔x ∈ l)∧List.length l=b1)→∀ (v4:Int), v4=(↑b1:Int)→(decide (v4≥(16:Int))=true→∃ (x2:SX),
      (5:Int)=0∧((bS=bS∧0=0∧false=false∧1≤1∧1≤1∧1≤1)∧(10:Int)=10∧(5:Int)=5∧false=false∧(0=0∧0=0∧0=0∧0=0∧0=0∧true=true)∧bM=bM∧(0:Int)=1)∧(∀ (i2:Nat), i2 < 1→∃ (x3:Nat), x3 < 1∧(bM, 0)=(bM, 0)∧(∀ (v5:Int), false=decide (v5=(9:Int)))∧∀ (v6:Int), false=true→SVeq (SV.val (Go.Value.pointer Option.none)) (SV.ptr 602 (SX.bT x2) 0 [PS.elt 0 11]))∧(false=true∧1=0∧1=0)∧(SX.sz x2=true∧SX.sN x2=0∧SX.sN x2=0)∧nxOk
      x2∧SX.name x2=nm∧SX.file x2=fl∧SX.me x2=true∧SX.en x2=true∧SX.sn x2≤1∧∀ (v5:Int), inL (spL x2) v5↔0≤v5∧v5 < (↑(List.length fl):Int))∧(decide (v4≥(16:Int))=false→(bS=bS∧0=0)∧(bS=bS∧0=0)∧((bS=bS∧0=0)∧List.length nm≤281474976710656∧List.length fl≤281474976710656∧(∀ (b2:Nat), ∃ (x3:Nat),
      (0=0∧bS=bS∧0=0)∧(0=0∧b2=x3∧0=0)∧((bS=bS∧0=0∧false=false∧1≤1∧1≤1∧1≤1)∧(10:Int)=10∧(5:Int)=5∧false=false∧(0=0∧0=0∧0=0∧0=0∧0=0∧true=true)∧bM=bM∧IntKind.i64.wrap ((0:Int)+(1:Int))=(1:Int))∧(∀ (i3:Nat), i3 < 1→∃ (x4:Nat), x4 < 1∧(bM, 0)=(bM, 0)∧(∀ (v6:Int), false=false)∧∀ (v7:Int), false=true→SVeq (SV.val (Go.Value.pointer Option.none)) (SV.val (Go.Value.pointer
      Option.none)))∧((b2=x3∧0=0∧false=false∧1≤1∧1≤1∧1≤1)∧(9:Int)=9∧IntKind.i64.wrap ((0:Int)+(1:Int))=(1:Int)∧nm=nm∧fl=fl∧(0:Int)=0∧(1:Int)=1∧(0:Int)=0∧(0:Int)=0∧true=true∧true=true∧SVeq (SV.slice 999999 0 0 [] 0 0 0 0 true) (SV.slice 603 0 0 [] 2 0 0 0 true))∧(true=true∧0=0∧0=0)∧True)∧True)∧∀ (b3:Nat), True→∀ (v6:Int), v6=(↑(List.length fl):Int)→∃ (x3:SX × Int × Int), (0=0∧b3=SX.bT
      x3.1∧0=0)∧(0:Int)=x3.2.1∧v6=x3.2.2∧((b3=SX.bT x3.1∧0=0∧false=false∧1≤1∧1≤1∧1≤1)∧(9:Int)=9∧(1:Int)=1∧nm=SX.name x3.1∧fl=SX.file x3.1∧(0:Int)=0∧(1:Int)=SX.ph x3.1∧(0:Int)=SX.tr x3.1∧(0:Int)=SX.cl x3.1∧true=SX.me x3.1∧true=SX.en x3.1∧0=SX.sb x3.1∧0=SX.so x3.1∧0=SX.si x3.1∧0=SX.sn x3.1∧0=SX.sc x3.1∧true=SX.sz x3.1)∧((0=SX.sb x3.1∧0=SX.so x3.1∧true=SX.sz x3.1∧SX.sN x3.1≤0∧SX.sN x3.1≤SX.sN x3.1∧SX.sN
      x3.1≤0)∧∀ (i3:Nat), i3 < SX.sN x3.1→(0:Int)=(SX.sf x3.1 i3).1∧(0:Int)=(SX.sf x3.1 i3).2)∧(spOk x3.1∧SX.sn x3.1≤999∧Go.Lit.wf (Go.Lit.int IntKind.i64 x3.2.1)=true∧Go.Lit.wf (Go.Lit.int IntKind.i64 x3.2.2)=true)∧∀ (y1:SX), addP x3 y1→(bS=bS∧0=0)∧bM=bM∧0 < 1∧(∀ (b4:Nat), b4 < 1→b4≠0→bM≠bM)∧∃ (x4:SX),
      (0:Int)=0∧((bS=bS∧0=0∧false=false∧1≤1∧1≤1∧1≤1)∧(10:Int)=10∧(5:Int)=5∧false=false∧(0=0∧0=0∧0=0∧0=0∧0=0∧true=true)∧bM=bM∧(1:Int)=1)∧(∀ (i4:Nat), i4 < 1→∃ (x5:Nat), x5 < 1∧(bM, 0)=(bM, 0)∧(∀ (v7:Int), (false||decide (v7=(9:Int)))=decide (v7=(9:Int)))∧∀ (v8:Int), (false||decide (v8=(9:Int)))=true→eqv (if v8=9 then SV.ptr 602 b3 0 [PS.elt 0 11] else SV.val (Go.Value.pointer Option.none)) (SV.ptr 602
      (SX.bT x4) 0 [PS.elt 0 11]))∧((SX.bT y1=SX.bT x4∧0=0∧false=false∧1≤1∧1≤1∧1≤1)∧(9:Int)=9∧(1:Int)=1∧SX.name y1=SX.name x4∧SX.file y1=SX.file x4∧(0:Int)=0∧SX.ph y1=SX.ph x4∧SX.tr y1=SX.tr x4∧SX.cl y1=SX.cl x4∧SX.me y1=SX.me x4∧SX.en y1=SX.en x4∧SX.sb y1=SX.sb x4∧SX.so y1=SX.so x4∧SX.si y1=SX.si x4∧SX.sn y1=SX.sn x4∧SX.sc y1=SX.sc x4∧SX.sz y1=SX.sz x4)∧((SX.sb y1=SX.sb x4∧SX.so y1=SX.so x4∧SX.sz
      y1=SX.sz x4∧SX.sN x4≤SX.sN y1∧SX.sN x4≤SX.sN x4∧SX.sN x4≤SX.sN y1)∧∀ (i5:Nat), i5 < SX.sN x4→(SX.sf y1 i5).1=(SX.sf x4 i5).1∧(SX.sf y1 i5).2=(SX.sf x4 i5).2)∧nxOk x4∧SX.name x4=nm∧SX.file x4=fl∧SX.me x4=true∧SX.en x4=true∧SX.sn x4≤1∧∀ (v7:Int), inL (spL x4) v7↔0≤v7∧v7 < (↑(List.length fl):Int)))) (by kernel_rfl) ?_
  obtain ⟨n1, n2, f1⟩ := hi
  dsimp only at n1 n2 f1
  refine ⟨fun _ => ⟨rfl, rfl⟩, fun t1 e1 t2 e2 v1 e3 t3 e4 v2 e5 t4 e6 => ?_⟩
  have h1 : t1 = false := e1.trans (by decide)
  have h2 : t2 = false := by
    rw [e2, h1, if_neg (by decide)]
    cases nm with
    | nil => simp at n1
    | cons a r => rfl
  have h3 : t3 = false := by
    rw [e4, h2, if_neg (by decide)]
    exact decide_eq_false (by omega)
  have h4 : t4 = false := by
    rw [e6, h3, if_neg (by decide)]
    exact decide_eq_false (by omega)
  have hb0 : ∀ b1 : Nat, (∃ l : List Int, l.Nodup ∧ (∀ x : Int, false = true ↔ x ∈ l) ∧ l.length = b1) → b1 = 0 := fun b1 ⟨l, _, h, hl⟩ => by
    cases l with
    | nil => exact hl.symm
    | cons a r => exact absurd ((h a).2 (List.mem_cons_self ..)) (by decide)
  clear e1 e2 e4 e6
  refine ⟨fun q => absurd (h4.symm.trans q) (by decide), fun _ => ?_⟩
  repeat' (first | with_reducible exact rfl | exact trivial | exact Nat.le_refl _ | exact Nat.one_pos | exact nil_eqv rfl rfl rfl | refine And.intro ?_ ?_ | intro _)
  all_goals (first | omega | contradiction | assumption | exact (rfl : IntKind.i64.wrap (0 + 1) = 1) | skip)
  · rename_i b1 hb v4 e hd
    have := hb0 b1 hb
    have := of_decide_eq_true hd
    omega
  · rename_i b2
    refine ⟨b2, ?_⟩
    repeat' (first | with_reducible exact rfl | exact trivial | exact Nat.le_refl _ | exact Nat.one_pos | exact nil_eqv rfl rfl rfl | exact ⟨0, Nat.one_pos, rfl, fun _ => rfl, fun _ q => by cases q⟩ | exact (rfl : IntKind.i64.wrap (0 + 1) = 1) | refine And.intro ?_ ?_ | intro _)
  · rename_i b3 ht v6 e6
    subst e6
    refine ⟨(s00 nm fl b3, 0, (fl.length : Int)), ⟨rfl, rfl, rfl⟩, rfl, rfl, ⟨⟨rfl, rfl, rfl, Nat.le_refl _, Nat.le_refl _, Nat.le_refl _⟩, rfl, rfl, rfl, rfl, rfl, rfl, rfl, rfl, rfl, rfl, rfl, rfl, rfl, rfl, rfl, rfl⟩, ⟨⟨rfl, rfl, rfl, Nat.le_refl _, Nat.le_refl _, Nat.le_refl _⟩, fun _ _ => ⟨rfl, rfl⟩⟩, ⟨⟨Nat.le_refl _, Nat.le_refl _, by show 0 ≤ 9223372036854775807; decide, fun _ => ⟨rfl, rfl, rfl⟩, Nat.zero_le _⟩, Nat.zero_le _, in64 (by dsimp only; omega) (by dsimp only; omega), in64 (by dsimp only; omega) (by dsimp only; omega)⟩, fun y1 hy => ⟨⟨rfl, rfl⟩, rfl, Nat.one_pos, fun b hb hn => absurd (by omega : b = 0) hn, y1, rfl, ⟨⟨rfl, rfl, rfl, Nat.le_refl _, Nat.le_refl _, Nat.le_refl _⟩, rfl, rfl, rfl, ⟨rfl, rfl, rfl, rfl, rfl, rfl⟩, rfl, rfl⟩, fun _ _ => ⟨0, Nat.one_pos, rfl, fun v => Bool.false_or _, fun v hv => ?_⟩, ⟨⟨rfl, rfl, rfl, Nat.le_refl _, Nat.le_refl _, Nat.le_refl _⟩, rfl, rfl, rfl, rfl, rfl, rfl, rfl, rfl, rfl, rfl, rfl, rfl, rfl, rfl, rfl, rfl⟩, ⟨⟨rfl, rfl, rfl, Nat.le_refl _, Nat.le_refl _, Nat.le_refl _⟩, fun _ _ => ⟨rfl, rfl⟩⟩, sd_end (bS := bS) (bM := bM) n1 n2 f1 hy⟩⟩
    have hv : v = 9 := of_decide_eq_true (by simpa using hv)
    rw [if_pos hv]
    exact ⟨rfl, hy.2.1.1.symm, rfl⟩
end Rc
