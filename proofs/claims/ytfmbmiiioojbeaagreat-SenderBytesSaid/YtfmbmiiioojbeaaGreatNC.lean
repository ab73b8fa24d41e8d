/-
  OWN WORK. Sender: the law SenderBytes: what is said of its loops; the walk.
-/
import Derived.Test.YtfmbmiiioojbeaaGreatNB
import Derived.Test.YtfmbmiiioojbeaaGreatND
import Derived.Test.YtfmbmiiioojbeaaGreatNE
import Derived.Test.YtfmbmiiioojbeaaGreatNP
namespace Rc
open Go Go.Proofs Eng
set_option linter.unusedVariables false
set_option linter.unusedSimpArgs false
set_option maxRecDepth 100000
set_option maxHeartbeats 4000000
noncomputable def getRN (args : List SV) (H : Hp) (nx : Nat) (K : SV → Hp → Nat → Prop) : Prop := match args with
  | [.str l] => (goodB l ∧ (unB l).kind ≤ 3) ∧ ∀ u : U, u = unB l → K (.tup [uSV0 u, .int .i64 0]) H nx
  | _ => False
theorem getRN_ok : EcOk Tryz.prog 10 getRN := by
  intro args H nx K hc hw
  unfold getRN at hc
  split at hc
  · rename_i l
    obtain ⟨⟨hg, hf⟩, k1⟩ := hc
    refine getR_ok [.str l] H nx K ?_ hw
    intro x' hx
    subst hx
    refine ⟨hg, hf, fun y _ => ?_⟩
    have hk := k1 (unB l) rfl
    show K (.tup [uSV0 (unB l), .int .i64 0]) (Hp.minus [] H) _
    rw [minus_none]
    exact hk
  · exact hc.elim
abbrev ByD := List UInt8 × List UInt8 × RowD (GapD × Option Nat) × Unit
abbrev aBy : ArgL ByD := .cons (.elt .str) (.cons (.elt .str) (.cons (.rowF (.wrow eGap)) .nil))
abbrev ByR (x : ByD) : Prop := x.1.length ≤ 140737488351232 ∧ x.2.1.length ≤ 140737488351232 ∧ (x.2.2.1.n ≤ x.2.2.1.c ∧ x.2.2.1.c * 24 ≤ 140737488351232 ∧ ∀ i, i < x.2.2.1.n → ((x.2.2.1.f i).1.n ≤ (x.2.2.1.f i).1.c ∧ (x.2.2.1.f i).1.c * 16 ≤ 140737488351232 ∧ (∀ j, j < (x.2.2.1.f i).1.n → inKind .i64 ((x.2.2.1.f i).1.f j).1 ∧ inKind .i64 ((x.2.2.1.f i).1.f j).2.1 ∧ True) ∧ (0 < (x.2.2.1.f i).1.n → (x.2.2.1.f i).2 = none))) ∧ True
def ptG : SV → Nat
  | .ptr g _ _ _ => g
  | _ => 0
def slG : SV → Nat
  | .slice g _ _ _ _ _ _ _ _ => g
  | _ => 0
def rwI (e : Ent) (k : Nat) : Int := intOf (e.get k)
def fdV (v : SV) (k : Nat) : SV := match v with
  | .agg l => (match nth l k with
    | some u => u
    | none => .bool false)
  | _ => .bool false
def srS : SV → List UInt8
  | .str l => l
  | _ => []
abbrev inR2 (e : Ent) (f : Nat → Int) : Ent := { e with get := fun k => .int .i64 (f k) }
/-- The lists of gaps. -/
def gapI (l : RowD (GapD × Option Nat)) (r : Nat) : List P2 := gapsOf (l.f r).1
def join6 (fr : Fr) (H : Hp) : LA := ⟨6, Nat × Nat, [7, 8], fun y => [.ptr 600 y.1 0 [.elt 0 6], .int .i64 0], [600, 601], fun y => [snE0 y.1 y.2 0, mpE0 y.2], fun _ => True, fun _ => 0⟩
def lp10 (len : Nat) (fr : Fr) (H : Hp) : LA := ⟨10, Nat, [10, 9], fun i => [.int .i64 (i : Nat), slotV fr 9], [slG (slotV fr 9)], fun i => [inR2 (entG H (slG (slotV fr 9))) fun k => if k < i then 1 else 0], fun i => i ≤ len, fun i => len - i⟩
structure RX where
  bS : Nat
  bM : Nat
  x : SX
  r : Nat
  f : Nat → Int
def ryI (name file : List UInt8) (y : RX) : Prop := nxOk y.x ∧ y.x.name = name ∧ y.x.file = file ∧ dueI file.length y.f (spL y.x) ∧ (0 < y.r → y.x.en = false) ∧ y.x.sn ≤ 1 + 20 * y.r
def ryE (fr : Fr) (H : Hp) (y : RX) : Hp := [snE y.bS y.bM, mpE y.bM y.x.bT, trE y.x, spE y.x, inR2 (entG H (slG (slotV fr 9))) y.f]
def lp14 (name file : List UInt8) (n : Nat) (fr : Fr) (H : Hp) : LA := ⟨14, RX, [11, 7, 9], fun y => [.int .i64 (y.r : Nat), .ptr 600 y.bS 0 [.elt 0 6], slotV fr 9], [600, 601, 602, 603, slG (slotV fr 9)], ryE fr H, fun y => y.r ≤ n ∧ ryI name file y, fun y => n + 1 - y.r⟩
def left (len : Nat) (y : RX) : Nat := cnt y.f len + (if y.x.me then 1 else 0) + (if y.x.en then 1 else 0)
def lp18 (name file : List UInt8) (fr : Fr) (H : Hp) : LA := ⟨18, Nat × RX, [12, 7, 9], fun y => [.int .i64 (y.1 : Nat), .ptr 600 y.2.bS 0 [.elt 0 6], slotV fr 9], [600, 601, 602, 603, slG (slotV fr 9)], fun y => ryE fr H y.2, fun y => ryI name file y.2 ∧ (y.2.r : Int) = intOf (slotV fr 11) ∧ y.1 + left file.length y.2 ≤ 5002, fun y => left file.length y.2⟩
def lp34 (fr : Fr) (H : Hp) : LA := ⟨34, Nat × (Nat → Int), [17, 9], fun y => [.int .i64 (y.1 : Nat), slotV fr 9], [slG (slotV fr 9)], fun y => [inR2 (entG H (slG (slotV fr 9))) y.2],
  fun y => y.1 ≤ (srS (fdV ((entG H (ptG (slotV fr 15))).get 0) 6)).length ∧ ∀ k : Nat, y.2 k = rwI (entG H (slG (slotV fr 9))) k - (if intOf (fdV ((entG H (ptG (slotV fr 15))).get 0) 5) ≤ k ∧ (k : Int) < intOf (fdV ((entG H (ptG (slotV fr 15))).get 0) 5) + y.1 then 1 else 0),
  fun y => (srS (fdV ((entG H (ptG (slotV fr 15))).get 0) 6)).length - y.1⟩
def lp43 (len : Nat) : LA := ⟨43, Nat, [18], fun i => [.int .i64 (i : Nat)], [], fun _ => [], fun i => i ≤ len, fun i => len - i⟩
def lp55 (len : Nat) (l : RowD (GapD × Option Nat)) (fr : Fr) (H : Hp) : LA := ⟨55, Nat × (Nat → Int), [23, 9], fun y => [.int .i64 (y.1 : Nat), slotV fr 9], [slG (slotV fr 9)], fun y => [inR2 (entG H (slG (slotV fr 9))) y.2],
  fun y => y.1 ≤ (gapI l (intOf (slotV fr 11)).toNat).length ∧ gpI len ((gapI l (intOf (slotV fr 11)).toNat).take y.1) y.2, fun y => (gapI l (intOf (slotV fr 11)).toNat).length - y.1⟩
def lp58 (len : Nat) (l : RowD (GapD × Option Nat)) (fr : Fr) (H : Hp) : LA := ⟨58, Nat × (Nat → Int), [24, 9], fun y => [.int .i64 (((gapI l (intOf (slotV fr 11)).toNat).getD (intOf (slotV fr 23)).toNat (0, 0)).1 + (y.1 : Nat)), slotV fr 9], [slG (slotV fr 9)], fun y => [inR2 (entG H (slG (slotV fr 9))) y.2],
  fun y => y.1 ≤ len ∧ (y.1 = 0 ∨ ((gapI l (intOf (slotV fr 11)).toNat).getD (intOf (slotV fr 23)).toNat (0, 0)).1 + (y.1 : Nat) ≤ min ((gapI l (intOf (slotV fr 11)).toNat).getD (intOf (slotV fr 23)).toNat (0, 0)).2 len) ∧ ∀ k : Nat, y.2 k = if ((gapI l (intOf (slotV fr 11)).toNat).getD (intOf (slotV fr 23)).toNat (0, 0)).1 ≤ k ∧ (k : Int) < ((gapI l (intOf (slotV fr 11)).toNat).getD (intOf (slotV fr 23)).toNat (0, 0)).1 + y.1 then 1 else rwI (entG H (slG (slotV fr 9))) k, fun y => len - y.1⟩
noncomputable def EBY : Env := (((((((((((((((((E0.addQ 24 eqPt).addQ 66 eqMp).addP 6 shown).addE 8 sdC).addE 9 nxC).addE 13 taC).addE 10 getRN).addP 11 sum32).addP 12 putW).addE 75 (keysK fun _ => [9])).addE 76 sortC).inl 7 Tryz.f7 fun _ _ => rds 3).inl 31 Tryz.f31 fun _ _ => rds 1).inl 47 Tryz.f47 fun _ _ => rds 1).inl 46 Tryz.f46 fun _ _ => rds 3).inl 15 Tryz.f15 fun _ _ => rds 3).inl 14 Tryz.f14 fun _ _ => [.unroll 4 2, .draw 6 (.take 0 (.take 1 (.take 2 (.take 3 (.take 4 (.take 5 (.take 6 (.take 7 (.take 8 .fin))))))))) []] ++ rds 8)
theorem EBY_ok : EnvOk Tryz.prog EBY := (((((((((((((((((E0_ok.addQ (eqPt_ok (by kernel_rfl))).addQ (eqMp_ok Tryz.underlying66)).addP shown_ok).addE send_ok).addE next_ok).addE take_ok).addE getRN_ok).addP sumR32_ok).addP putW_ok).addE (keysK_ok fun _ => [9])).addE sort_ok).inl _ Tryz.func7 rfl (by kernel_rfl)).inl _ Tryz.func31 rfl (by kernel_rfl)).inl _ Tryz.func47 rfl (by kernel_rfl)).inl _ Tryz.func46 rfl (by kernel_rfl)).inl _ Tryz.func15 rfl (by kernel_rfl)).inl _ Tryz.func14 rfl (by kernel_rfl))
theorem ok_me {x : SX} (h : nxOk x) : okU (uMe9 x) := by
  obtain ⟨_, _, h3, h4, h5⟩ := h
  have q : inR x.name.length 1 32 ∧ inR x.file.length 0 65535 := ⟨⟨by omega, by omega⟩, by omega, by omega⟩
  exact ⟨(by decide : inR 9 0 65535), q, rfl⟩
theorem ok_en {x : SX} (h : nxOk x) : okU (uEn9 x) := by
  obtain ⟨_, _, h3, h4, h5⟩ := h
  have q : inR 0 0 1 ∧ inR x.file.length 0 65535 := ⟨⟨by omega, by omega⟩, by omega, by omega⟩
  exact ⟨(by decide : inR 9 0 65535), q, rfl⟩
theorem ok_da {x : SX} (h : nxOk x) {a e m : Int} {r : List P2} (hs : spL x = (a, e) :: r) (hm : m = min e (a + 160)) : okU (uDa9 x a m) ∧ (((x.file.take m.toNat).drop a.toNat).length : Int) = m - a ∧ 0 ≤ a ∧ a < m ∧ m ≤ x.file.length := by
  obtain ⟨_, h2, h3, h4, h5⟩ := h
  rw [hs] at h2
  obtain ⟨_, d1, d2, d3, d4, _⟩ := drop_is h2 m hm
  have hl : (((x.file.take m.toNat).drop a.toNat).length : Int) = m - a := by
    rw [List.length_drop, List.length_take]; omega
  have q : inR ((x.file.take m.toNat).drop a.toNat).length 1 160 ∧ inR a 0 (65535 - ((x.file.take m.toNat).drop a.toNat).length) := ⟨⟨by omega, by omega⟩, by omega, by omega⟩
  exact ⟨⟨(by decide : inR 9 0 65535), q, rfl⟩, hl, d1, d2, d3⟩
theorem ry_step {name file : List UInt8} {y : RX} {x : SX} {f : Nat → Int} (h : ryI name file y) (hok : nxOk x) (hn : x.name = y.x.name) (hf : x.file = y.x.file) (hd : dueI file.length f (spL x)) (he : x.en = true → y.x.en = true) (hs : x.sn ≤ 1 + 20 * y.r) (bS bM : Nat) : ryI name file ⟨bS, bM, x, y.r, f⟩ :=
  ⟨hok, hn.trans h.2.1, hf.trans h.2.2.1, hd, (fun q => by
    have e := h.2.2.2.2.1 q
    cases hx : x.en with
    | false => rfl
    | true => rw [he hx] at e; cases e), hs⟩
theorem spL_len (x : SX) : (spL x).length = x.sn := by simp [spL]
theorem left_le {file : List UInt8} {y : RX} (h : dueI file.length y.f (spL y.x)) (hf : file.length ≤ 5000) : left file.length y ≤ 5002 := by
  have := cnt_le (f := y.f) file.length fun k hk => (due_bd h k hk).2
  unfold left
  split <;> split <;> omega
theorem sort9 : sortF 1 (fun _ => 9) 0 = 9 := by simp [sortF, sortL]
abbrev byAn (x : ByD) : List An := [.raw 1, .det 2, .raw 5, .joinD 6 join6 760, .raw 6, .sure 6, .det 7, .loopD 10 (lp10 x.2.1.length), .loopD 14 (lp14 x.1 x.2.1 x.2.2.1.n), .loopD 18 (lp18 x.1 x.2.1), .draw 31 (.take 0 (.take 1 (.take 2 (.take 3 (.take 4 (.take 5 (.take 6 (.take 7 (.take 8 (.take 9 (.take 10 (.take 11 (.take 12 (.take 13 (.take 14 (.take 15 (.take 16 (.take 17 (.take 18 (.take 19 (.take 20 (.take 21 (.take 22 (.take 23 .fin)))))))))))))))))))))))) [], .loopD 34 lp34, .draw 40 (.take 0 (.take 1 (.take 2 (.take 3 (.take 4 (.take 5 (.take 6 (.take 7 (.take 8 (.take 9 (.take 10 (.take 11 (.take 12 (.take 13 (.take 14 (.take 15 (.take 16 (.take 17 (.take 18 (.take 19 (.take 20 .fin))))))))))))))))))))) [], .loop (lp43 x.2.1.length), .loopD 55 (lp55 x.2.1.length x.2.2.1), .loopD 58 (lp58 x.2.1.length x.2.2.1)]
theorem bytes_walk : ∀ (x : ByD) (hR : ByR x) (hw : ∀ v ∈ aBy.svs 0 x, v.wf), exCode EBY Tryz.f3.ntmps (byAn x) (match Tryz.f3.body with | some c => c | none => .skip) (argFr 0 (aBy.svs 0 x)) (aBy.hp 0 x) aBy.tags (atEnd EBY Tryz.f3.results.toList fun r _ _ => eqv r (.bool true)) := by
  refine fun ⟨name, file, ⟨pb, po, pn, pc, pz, pf⟩, ()⟩ hR hw => ?_
  refine vc_of (q :=
      ∀ (v1:Int), v1=(↑(List.length file):Int)→∀ (v2:Int), v2=(↑pn:Int)→∀ (t1:Bool), (t1=if decide (v1 > (5000:Int))=true then true else decide (v2 > (10:Int)))→∀ (t2:Bool), (t2=if t1=true then true else name==[])→∀ (v3:Int), v3=(↑(List.length name):Int)→∀ (t3:Bool), (t3=if t2=true then true else decide (v3 > (32:Int)))→(t3=true→true=true)∧(t3=false→(∀ (b1 b2:Nat), ∃ (x1:Nat × Nat),
      (0=0∧b2=x1.1∧0=0)∧(0:Int)=0∧((b2=x1.1∧0=0∧false=false∧1≤1∧1≤1∧1≤1)∧(10:Int)=10∧(5:Int)=5∧false=false∧(0=0∧0=0∧0=0∧0=0∧0=0∧true=true)∧b1=x1.2∧(0:Int)=0)∧(∀ (i1:Nat), i1 < 1→∃ (x2:Nat), x2 < 1∧(b1, 0)=(x1.2, 0)∧(∀ (v4:Int), false=false)∧∀ (v5:Int), false=true→SVeq (SV.val (Go.Value.pointer Option.none)) (SV.val (Go.Value.pointer Option.none)))∧True)∧∀ (x1:Nat × Nat), True→∃ (x2:Nat × Nat × List UInt8
      × List UInt8), (0=0∧x1.1=x2.1∧0=0)∧(9:Int)=9∧name=x2.2.2.1∧file=x2.2.2.2∧((x1.1=x2.1∧0=0∧false=false∧1≤1∧1≤1∧1≤1)∧(10:Int)=10∧(5:Int)=5∧false=false∧(0=0∧0=0∧0=0∧0=0∧0=0∧true=true)∧x1.2=x2.2.1∧(0:Int)=0)∧(∀ (i1:Nat), i1 < 1→∃ (x3:Nat), x3 < 1∧(x1.2, 0)=(x2.2.1, 0)∧(∀ (v4:Int), false=false)∧∀ (v5:Int), false=true→SVeq (SV.val (Go.Value.pointer Option.none)) (SV.val (Go.Value.pointer
      Option.none)))∧(1≤List.length x2.2.2.1∧List.length x2.2.2.1≤32∧List.length x2.2.2.2≤5000)∧∀ (y1:SX), sdP x2 y1→∀ (v4:Int), v4=(↑(List.length file):Int)→0≤v4∧v4≤v4∧v4*(↑(8:Nat):Int)≤(140737488355328:Int)∧v4≤9223372036854775807∧∀ (b2:Nat), (∃ (x3:Nat), 0=(↑x3:Int)∧(b2=b2∧0=0∧0=0∧Int.toNat v4=Int.toNat v4∧Int.toNat v4=Int.toNat v4∧false=false)∧((b2=b2∧0=0∧false=false∧Int.toNat v4≤Int.toNat
      v4∧Int.toNat v4≤Int.toNat v4∧Int.toNat v4≤Int.toNat v4)∧∀ (i2:Nat), i2 < Int.toNat v4→(0:Int)=if i2 < x3 then (1:Int) else (0:Int))∧Nat.le x3 (List.length file))∧∀ (b3:Nat), b3≤List.length file→∀ (v5:Int), v5=(↑(List.length file):Int)→(decide ((↑b3:Int) < v5)=true→0≤(↑b3:Int)∧(↑b3:Int) < (↑(Int.toNat v4):Int)∧(b2=b2∧0=0)∧Int.toNat (↑b3:Int) < Int.toNat v4∧∀ (v6:Int), v6=IntKind.i64.wrap
      ((↑b3:Int)+(1:Int))→∃ (x4:Nat), v6=(↑x4:Int)∧(b2=b2∧0=0∧0=0∧Int.toNat v4=Int.toNat v4∧Int.toNat v4=Int.toNat v4∧false=false)∧((b2=b2∧0=0∧false=false∧Int.toNat v4≤Int.toNat v4∧Int.toNat v4≤Int.toNat v4∧Int.toNat v4≤Int.toNat v4)∧∀ (i3:Nat), i3 < Int.toNat v4→(if i3=Int.toNat (↑b3:Int) then (1:Int) else if i3 < b3 then (1:Int) else (0:Int))=if i3 < x4 then (1:Int) else (0:Int))∧x4≤List.length
      file∧List.length file - x4 < List.length file - b3)∧(decide ((↑b3:Int) < v5)=false→(∃ (x4:RX), 0=(↑(RX.r x4):Int)∧(0=0∧x1.1=RX.bS x4∧0=0)∧(b2=b2∧0=0∧0=0∧Int.toNat v4=Int.toNat v4∧Int.toNat v4=Int.toNat v4∧false=false)∧((x2.1=RX.bS x4∧0=0∧false=false∧1≤1∧1≤1∧1≤1)∧(10:Int)=10∧(5:Int)=5∧false=false∧(0=0∧0=0∧0=0∧0=0∧0=0∧true=true)∧x2.2.1=RX.bM x4∧(1:Int)=1)∧(∀ (i3:Nat), i3 < 1→∃ (x5:Nat), x5 <
      1∧(x2.2.1, 0)=(RX.bM x4, 0)∧(∀ (v7:Int), decide (v7=(9:Int))=decide (v7=(9:Int)))∧∀ (v8:Int), decide (v8=(9:Int))=true→0=0∧SX.bT y1=SX.bT (RX.x x4)∧0=0)∧((SX.bT y1=SX.bT (RX.x x4)∧0=0∧false=false∧1≤1∧1≤1∧1≤1)∧(9:Int)=9∧(1:Int)=1∧SX.name y1=SX.name (RX.x x4)∧SX.file y1=SX.file (RX.x x4)∧(0:Int)=0∧SX.ph y1=SX.ph (RX.x x4)∧SX.tr y1=SX.tr (RX.x x4)∧SX.cl y1=SX.cl (RX.x x4)∧SX.me y1=SX.me (RX.x
      x4)∧SX.en y1=SX.en (RX.x x4)∧SX.sb y1=SX.sb (RX.x x4)∧SX.so y1=SX.so (RX.x x4)∧SX.si y1=SX.si (RX.x x4)∧SX.sn y1=SX.sn (RX.x x4)∧SX.sc y1=SX.sc (RX.x x4)∧SX.sz y1=SX.sz (RX.x x4))∧((SX.sb y1=SX.sb (RX.x x4)∧SX.so y1=SX.so (RX.x x4)∧SX.sz y1=SX.sz (RX.x x4)∧SX.sN (RX.x x4)≤SX.sN y1∧SX.sN (RX.x x4)≤SX.sN (RX.x x4)∧SX.sN (RX.x x4)≤SX.sN y1)∧∀ (i4:Nat), i4 < SX.sN (RX.x x4)→(SX.sf y1 i4).1=(SX.sf (RX.x
      x4) i4).1∧(SX.sf y1 i4).2=(SX.sf (RX.x x4) i4).2)∧((b2=b2∧0=0∧false=false∧Int.toNat v4≤Int.toNat v4∧Int.toNat v4≤Int.toNat v4∧Int.toNat v4≤Int.toNat v4)∧∀ (i5:Nat), i5 < Int.toNat v4→(if i5 < b3 then (1:Int) else (0:Int))=RX.f x4 i5)∧RX.r x4≤pn∧ryI name file x4)∧∀ (x5:RX), RX.r x5≤pn∧ryI name file x5→∀ (v7:Int), v7=(↑pn:Int)→(decide ((↑(RX.r x5):Int)≤v7)=true→(∃ (x6:Nat × RX),
      0=(↑x6.1:Int)∧(0=0∧RX.bS x5=RX.bS x6.2∧0=0)∧(b2=b2∧0=0∧0=0∧Int.toNat v4=Int.toNat v4∧Int.toNat v4=Int.toNat v4∧false=false)∧((RX.bS x5=RX.bS x6.2∧0=0∧false=false∧1≤1∧1≤1∧1≤1)∧(10:Int)=10∧(5:Int)=5∧false=false∧(0=0∧0=0∧0=0∧0=0∧0=0∧true=true)∧RX.bM x5=RX.bM x6.2∧(1:Int)=1)∧(∀ (i6:Nat), i6 < 1→∃ (x7:Nat), x7 < 1∧(RX.bM x5, 0)=(RX.bM x6.2, 0)∧(∀ (v8:Int), decide (v8=(9:Int))=decide (v8=(9:Int)))∧∀
      (v9:Int), decide (v9=(9:Int))=true→0=0∧SX.bT (RX.x x5)=SX.bT (RX.x x6.2)∧0=0)∧((SX.bT (RX.x x5)=SX.bT (RX.x x6.2)∧0=0∧false=false∧1≤1∧1≤1∧1≤1)∧(9:Int)=9∧(1:Int)=1∧SX.name (RX.x x5)=SX.name (RX.x x6.2)∧SX.file (RX.x x5)=SX.file (RX.x x6.2)∧(0:Int)=0∧SX.ph (RX.x x5)=SX.ph (RX.x x6.2)∧SX.tr (RX.x x5)=SX.tr (RX.x x6.2)∧SX.cl (RX.x x5)=SX.cl (RX.x x6.2)∧SX.me (RX.x x5)=SX.me (RX.x x6.2)∧SX.en (RX.x
      x5)=SX.en (RX.x x6.2)∧SX.sb (RX.x x5)=SX.sb (RX.x x6.2)∧SX.so (RX.x x5)=SX.so (RX.x x6.2)∧SX.si (RX.x x5)=SX.si (RX.x x6.2)∧SX.sn (RX.x x5)=SX.sn (RX.x x6.2)∧SX.sc (RX.x x5)=SX.sc (RX.x x6.2)∧SX.sz (RX.x x5)=SX.sz (RX.x x6.2))∧((SX.sb (RX.x x5)=SX.sb (RX.x x6.2)∧SX.so (RX.x x5)=SX.so (RX.x x6.2)∧SX.sz (RX.x x5)=SX.sz (RX.x x6.2)∧SX.sN (RX.x x6.2)≤SX.sN (RX.x x5)∧SX.sN (RX.x x6.2)≤SX.sN (RX.x
      x6.2)∧SX.sN (RX.x x6.2)≤SX.sN (RX.x x5))∧∀ (i7:Nat), i7 < SX.sN (RX.x x6.2)→(SX.sf (RX.x x5) i7).1=(SX.sf (RX.x x6.2) i7).1∧(SX.sf (RX.x x5) i7).2=(SX.sf (RX.x x6.2) i7).2)∧((b2=b2∧0=0∧false=false∧Int.toNat v4≤Int.toNat v4∧Int.toNat v4≤Int.toNat v4∧Int.toNat v4≤Int.toNat v4)∧∀ (i8:Nat), i8 < Int.toNat v4→RX.f x5 i8=RX.f x6.2 i8)∧ryI name file x6.2∧(↑(RX.r x6.2):Int)=(↑(RX.r x5):Int)∧x6.1+left
      (List.length file) x6.2≤5002)∧∀ (x7:Nat × RX), ryI name file x7.2∧(↑(RX.r x7.2):Int)=(↑(RX.r x5):Int)∧x7.1+left (List.length file) x7.2≤5002→∃ (x8:Nat × Nat × SX), (0=0∧RX.bS x7.2=x8.1∧0=0)∧((RX.bS x7.2=x8.1∧0=0∧false=false∧1≤1∧1≤1∧1≤1)∧(10:Int)=10∧(5:Int)=5∧false=false∧(0=0∧0=0∧0=0∧0=0∧0=0∧true=true)∧RX.bM x7.2=x8.2.1∧(1:Int)=1)∧(∀ (i9:Nat), i9 < 1→∃ (x9:Nat), x9 < 1∧(RX.bM x7.2, 0)=(x8.2.1, 0)∧(∀
      (v8:Int), decide (v8=(9:Int))=decide (v8=(9:Int)))∧∀ (v9:Int), decide (v9=(9:Int))=true→0=0∧SX.bT (RX.x x7.2)=SX.bT x8.2.2∧0=0)∧((SX.bT (RX.x x7.2)=SX.bT x8.2.2∧0=0∧false=false∧1≤1∧1≤1∧1≤1)∧(9:Int)=9∧(1:Int)=1∧SX.name (RX.x x7.2)=SX.name x8.2.2∧SX.file (RX.x x7.2)=SX.file x8.2.2∧(0:Int)=0∧SX.ph (RX.x x7.2)=SX.ph x8.2.2∧SX.tr (RX.x x7.2)=SX.tr x8.2.2∧SX.cl (RX.x x7.2)=SX.cl x8.2.2∧SX.me (RX.x
      x7.2)=SX.me x8.2.2∧SX.en (RX.x x7.2)=SX.en x8.2.2∧SX.sb (RX.x x7.2)=SX.sb x8.2.2∧SX.so (RX.x x7.2)=SX.so x8.2.2∧SX.si (RX.x x7.2)=SX.si x8.2.2∧SX.sn (RX.x x7.2)=SX.sn x8.2.2∧SX.sc (RX.x x7.2)=SX.sc x8.2.2∧SX.sz (RX.x x7.2)=SX.sz x8.2.2)∧((SX.sb (RX.x x7.2)=SX.sb x8.2.2∧SX.so (RX.x x7.2)=SX.so x8.2.2∧SX.sz (RX.x x7.2)=SX.sz x8.2.2∧SX.sN x8.2.2≤SX.sN (RX.x x7.2)∧SX.sN x8.2.2≤SX.sN x8.2.2∧SX.sN
      x8.2.2≤SX.sN (RX.x x7.2))∧∀ (i10:Nat), i10 < SX.sN x8.2.2→(SX.sf (RX.x x7.2) i10).1=(SX.sf x8.2.2 i10).1∧(SX.sf (RX.x x7.2) i10).2=(SX.sf x8.2.2 i10).2)∧nxOk x8.2.2∧∀ (y2:SX × List UInt8 × Bool), nxP x8 y2→∀ (s1:List UInt8), s1=y2.2.1→∀ (t4:Bool), t4=y2.2.2→((!t4)=true→(∃ (x9:Nat), 0=(↑x9:Int)∧Nat.le x9 (List.length file))∧∀ (b4:Nat), b4≤List.length file→∀ (v8:Int), v8=(↑(Int.toNat v4):Int)→(decide
      ((↑b4:Int) < v8)=true→0≤(↑b4:Int)∧(↑b4:Int) < (↑(Int.toNat v4):Int)∧(b2=b2∧0=0)∧Int.toNat (↑b4:Int) < Int.toNat v4∧((RX.f x7.2 (Int.toNat (↑b4:Int)) != (0:Int))=true→false=true)∧((RX.f x7.2 (Int.toNat (↑b4:Int)) != (0:Int))=false→∀ (v9:Int), v9=IntKind.i64.wrap ((↑b4:Int)+(1:Int))→∃ (x10:Nat), v9=(↑x10:Int)∧x10≤List.length file∧List.length file - x10 < List.length file - b4))∧(decide ((↑b4:Int) <
      v8)=false→∀ (v10:Int), v10=(↑pn:Int)→(((↑(RX.r x5):Int)==v10)=true→(false=false→x8.1=RX.bS x7.2∧0=0)∧(x8.1=RX.bS x7.2∧0=0)∧∀ (b5:Nat), ((∀ (v11:Int), decide (v11=(9:Int))=true↔v11=9)∧(0:Int)≤9∧(9:Int) < 65536)∧0=0∧b5=b5∧0=0∧0 < 1∧x8.2.1=x8.2.1∧0 < 1∧∀ (y3:Nat × Nat × Nat), 1≤y3.2.2→y3.2.2≤9223372036854775807→(y3.1=y3.1∧y3.2.1=y3.2.1)∧(0=0∧∀ (k1:Nat), k1 < 1→true=true)∧∀ (x'1:Eng.OwnD Int × Unit),
      x'1=(Eng.OwnD.mk y3.1 y3.2.1 1 y3.2.2 false 1 y3.2.2 false fun (k:Nat) ↦ (9:Int), ())→Eng.OwnD.n (Prod.fst x'1)≤Eng.OwnD.m (Prod.fst x'1)∧Eng.OwnD.n (Prod.fst x'1)≤1000000∧(Eng.OwnD.z (Prod.fst x'1)=true∨Eng.OwnD.ez (Prod.fst x'1)=false)∧∀ (y4:Unit), True→∀ (b6:Nat), (0:Int)≤0∧0 < (↑(1:Nat):Int)∧(Eng.OwnD.b (Prod.fst x'1)=y3.1∧Eng.OwnD.off (Prod.fst x'1)=y3.2.1)∧0 < Eng.OwnD.m (Prod.fst
      x'1)∧(0:Int)≤0∧0 < (↑(1:Nat):Int)∧(b6=b6∧0=0)∧0 < 1∧match sortF (Eng.OwnD.n (Prod.fst x'1)) (Eng.OwnD.f (Prod.fst x'1)) 0 != (9:Int) with | true => ∀ (t:Bool), t=false→eqv (SV.bool t) (SV.bool true) | false => ∀ (t:Bool), t=true→eqv (SV.bool t) (SV.bool true))∧(((↑(RX.r x5):Int)==v10)=false→0≤(↑(RX.r x5):Int)∧(↑(RX.r x5):Int) < (↑pn:Int)∧(pb=pb∧po=po)∧Int.toNat (↑(RX.r x5):Int) < pn∧∀ (b6:Nat),
      (b6=b6∧0=0)∧(b6=b6∧0=0)∧((5:Int)=5∧(9:Int)=9∧([]:List UInt8)=[]∧(0:Int)=0∧(0:Int)=0∧(0:Int)=0∧([]:List UInt8)=[]∧(0:Int)=0∧(0:Int)=0∧false=false)∧Eng.RowD.n ((pf (Int.toNat (↑(RX.r x5):Int))).1)≤8796093022208∧(0 < Eng.RowD.n ((pf (Int.toNat (↑(RX.r x5):Int))).1)→(pf (Int.toNat (↑(RX.r x5):Int))).2=Option.none)∧Eng.RowD.n ((pf (Int.toNat (↑(RX.r x5):Int))).1)≤Eng.RowD.n ((pf (Int.toNat (↑(RX.r
      x5):Int))).1)∧(∀ (k1:Nat), k1 < Eng.RowD.n ((pf (Int.toNat (↑(RX.r x5):Int))).1)→true=true)∧(Eng.RowD.b ((pf (Int.toNat (↑(RX.r x5):Int))).1), Eng.RowD.off ((pf (Int.toNat (↑(RX.r x5):Int))).1))=(Eng.RowD.b ((pf (Int.toNat (↑(RX.r x5):Int))).1), Eng.RowD.off ((pf (Int.toNat (↑(RX.r x5):Int))).1))∧Int.toNat (↑(RX.r x5):Int) < pn∧∀ (s2:List UInt8), s2=putU (uG ((pf (Int.toNat (↑(RX.r x5):Int))).1))→∀
      (v11:Int), v11=putE (uG ((pf (Int.toNat (↑(RX.r x5):Int))).1))→((v11 != (0:Int))=true→∀ (v12:Int), v12=IntKind.i64.wrap ((↑(RX.r x5):Int)+(1:Int))→∃ (x10:RX), v12=(↑(RX.r x10):Int)∧(0=0∧RX.bS x7.2=RX.bS x10∧0=0)∧(b2=b2∧0=0∧0=0∧Int.toNat v4=Int.toNat v4∧Int.toNat v4=Int.toNat v4∧false=false)∧((x8.1=RX.bS
      x10∧0=0∧false=false∧1≤1∧1≤1∧1≤1)∧(10:Int)=10∧(5:Int)=5∧false=false∧(0=0∧0=0∧0=0∧0=0∧0=0∧true=true)∧x8.2.1=RX.bM x10∧(1:Int)=1)∧(∀ (i11:Nat), i11 < 1→∃ (x11:Nat), x11 < 1∧(x8.2.1, 0)=(RX.bM x10, 0)∧(∀ (v13:Int), decide (v13=(9:Int))=decide (v13=(9:Int)))∧∀ (v14:Int), decide (v14=(9:Int))=true→0=0∧SX.bT y2.1=SX.bT (RX.x x10)∧0=0)∧((SX.bT y2.1=SX.bT (RX.x
      x10)∧0=0∧false=false∧1≤1∧1≤1∧1≤1)∧(9:Int)=9∧(1:Int)=1∧SX.name y2.1=SX.name (RX.x x10)∧SX.file y2.1=SX.file (RX.x x10)∧(0:Int)=0∧SX.ph y2.1=SX.ph (RX.x x10)∧SX.tr y2.1=SX.tr (RX.x x10)∧SX.cl y2.1=SX.cl (RX.x x10)∧SX.me y2.1=SX.me (RX.x x10)∧SX.en y2.1=SX.en (RX.x x10)∧SX.sb y2.1=SX.sb (RX.x x10)∧SX.so y2.1=SX.so (RX.x x10)∧SX.si y2.1=SX.si (RX.x x10)∧SX.sn y2.1=SX.sn (RX.x x10)∧SX.sc y2.1=SX.sc
      (RX.x x10)∧SX.sz y2.1=SX.sz (RX.x x10))∧((SX.sb y2.1=SX.sb (RX.x x10)∧SX.so y2.1=SX.so (RX.x x10)∧SX.sz y2.1=SX.sz (RX.x x10)∧SX.sN (RX.x x10)≤SX.sN y2.1∧SX.sN (RX.x x10)≤SX.sN (RX.x x10)∧SX.sN (RX.x x10)≤SX.sN y2.1)∧∀ (i12:Nat), i12 < SX.sN (RX.x x10)→(SX.sf y2.1 i12).1=(SX.sf (RX.x x10) i12).1∧(SX.sf y2.1 i12).2=(SX.sf (RX.x x10) i12).2)∧((b2=b2∧0=0∧false=false∧Int.toNat v4≤Int.toNat v4∧Int.toNat
      v4≤Int.toNat v4∧Int.toNat v4≤Int.toNat v4)∧∀ (i13:Nat), i13 < Int.toNat v4→RX.f x7.2 i13=RX.f x10 i13)∧(RX.r x10≤pn∧ryI name file x10)∧pn+1 - RX.r x10 < pn+1 - RX.r x5)∧((v11 != (0:Int))=false→∃ (x10:Nat × Nat × SX × List UInt8), (0=0∧RX.bS
      x7.2=x10.1∧0=0)∧s2=x10.2.2.2∧((x8.1=x10.1∧0=0∧false=false∧1≤1∧1≤1∧1≤1)∧(10:Int)=10∧(5:Int)=5∧false=false∧(0=0∧0=0∧0=0∧0=0∧0=0∧true=true)∧x8.2.1=x10.2.1∧(1:Int)=1)∧(∀ (i11:Nat), i11 < 1→∃ (x11:Nat), x11 < 1∧(x8.2.1, 0)=(x10.2.1, 0)∧(∀ (v13:Int), decide (v13=(9:Int))=decide (v13=(9:Int)))∧∀ (v14:Int), decide (v14=(9:Int))=true→0=0∧SX.bT y2.1=SX.bT x10.2.2.1∧0=0)∧((SX.bT y2.1=SX.bT
      x10.2.2.1∧0=0∧false=false∧1≤1∧1≤1∧1≤1)∧(9:Int)=9∧(1:Int)=1∧SX.name y2.1=SX.name x10.2.2.1∧SX.file y2.1=SX.file x10.2.2.1∧(0:Int)=0∧SX.ph y2.1=SX.ph x10.2.2.1∧SX.tr y2.1=SX.tr x10.2.2.1∧SX.cl y2.1=SX.cl x10.2.2.1∧SX.me y2.1=SX.me x10.2.2.1∧SX.en y2.1=SX.en x10.2.2.1∧SX.sb y2.1=SX.sb x10.2.2.1∧SX.so y2.1=SX.so x10.2.2.1∧SX.si y2.1=SX.si x10.2.2.1∧SX.sn y2.1=SX.sn x10.2.2.1∧SX.sc y2.1=SX.sc
      x10.2.2.1∧SX.sz y2.1=SX.sz x10.2.2.1)∧((SX.sb y2.1=SX.sb x10.2.2.1∧SX.so y2.1=SX.so x10.2.2.1∧SX.sz y2.1=SX.sz x10.2.2.1∧SX.sN x10.2.2.1≤SX.sN y2.1∧SX.sN x10.2.2.1≤SX.sN x10.2.2.1∧SX.sN x10.2.2.1≤SX.sN y2.1)∧∀ (i12:Nat), i12 < SX.sN x10.2.2.1→(SX.sf y2.1 i12).1=(SX.sf x10.2.2.1 i12).1∧(SX.sf y2.1 i12).2=(SX.sf x10.2.2.1 i12).2)∧(nxOk x10.2.2.1∧taOk x10)∧∀ (y3:SX), taP x10 y3→∀ (v13:Int), v13=0→∀
      (v14:Int), v14=(↑(0:Nat):Int)→∀ (t5:Bool), (t5=if (v13 != (0:Int))=true then true else v14 != (0:Int))→(t5=true→false=true)∧(t5=false→(∃ (x11:Nat × (Nat→Int)), 0=(↑x11.1:Int)∧(b2=b2∧0=0∧0=0∧Int.toNat v4=Int.toNat v4∧Int.toNat v4=Int.toNat v4∧false=false)∧((b2=b2∧0=0∧false=false∧Int.toNat v4≤Int.toNat v4∧Int.toNat v4≤Int.toNat v4∧Int.toNat v4≤Int.toNat v4)∧∀ (i13:Nat), i13 < Int.toNat v4→RX.f x7.2
      i13=x11.2 i13)∧x11.1≤List.length (gapI (Eng.RowD.mk pb po pn pc pz pf) (Int.toNat (↑(RX.r x5):Int)))∧gpI (List.length file) (List.take x11.1 (gapI (Eng.RowD.mk pb po pn pc pz pf) (Int.toNat (↑(RX.r x5):Int)))) x11.2)∧∀ (x12:Nat × (Nat→Int)), x12.1≤List.length (gapI (Eng.RowD.mk pb po pn pc pz pf) (Int.toNat (↑(RX.r x5):Int)))∧gpI (List.length file) (List.take x12.1 (gapI (Eng.RowD.mk pb po pn pc pz
      pf) (Int.toNat (↑(RX.r x5):Int)))) x12.2→(b6=b6∧0=0)∧∀ (v15:Int), v15=(↑(Eng.RowD.n ((pf (Int.toNat (↑(RX.r x5):Int))).1)):Int)→(decide ((↑x12.1:Int) < v15)=true→(b6=b6∧0=0)∧0≤(↑x12.1:Int)∧(↑x12.1:Int) < (↑(Eng.RowD.n ((pf (Int.toNat (↑(RX.r x5):Int))).1)):Int)∧(pf (Int.toNat (↑(RX.r x5):Int))).2=Option.none∧(Eng.RowD.b ((pf (Int.toNat (↑(RX.r x5):Int))).1), Eng.RowD.off ((pf (Int.toNat (↑(RX.r
      x5):Int))).1))=(Eng.RowD.b ((pf (Int.toNat (↑(RX.r x5):Int))).1), Eng.RowD.off ((pf (Int.toNat (↑(RX.r x5):Int))).1))∧Int.toNat (↑(RX.r x5):Int) < pn∧Int.toNat (↑x12.1:Int) < Eng.RowD.n ((pf (Int.toNat (↑(RX.r x5):Int))).1)∧(∃ (x13:Nat × (Nat→Int)), (Eng.RowD.f ((pf (Int.toNat (↑(RX.r x5):Int))).1) (Int.toNat (↑x12.1:Int))).1=(List.getD (gapI (Eng.RowD.mk pb po pn pc pz pf) (Int.toNat (↑(RX.r
      x5):Int))) (Int.toNat (↑x12.1:Int)) ((0:Int), (0:Int))).1+(↑x13.1:Int)∧(b2=b2∧0=0∧0=0∧Int.toNat v4=Int.toNat v4∧Int.toNat v4=Int.toNat v4∧false=false)∧((b2=b2∧0=0∧false=false∧Int.toNat v4≤Int.toNat v4∧Int.toNat v4≤Int.toNat v4∧Int.toNat v4≤Int.toNat v4)∧∀ (i14:Nat), i14 < Int.toNat v4→x12.2 i14=x13.2 i14)∧x13.1≤List.length file∧(x13.1=0∨(List.getD (gapI (Eng.RowD.mk pb po pn pc pz pf) (Int.toNat
      (↑(RX.r x5):Int))) (Int.toNat (↑x12.1:Int)) ((0:Int), (0:Int))).1+(↑x13.1:Int)≤Min.min ((List.getD (gapI (Eng.RowD.mk pb po pn pc pz pf) (Int.toNat (↑(RX.r x5):Int))) (Int.toNat (↑x12.1:Int)) ((0:Int), (0:Int))).2) (↑(List.length file):Int))∧∀ (k2:Nat), x13.2 k2=if (List.getD (gapI (Eng.RowD.mk pb po pn pc pz pf) (Int.toNat (↑(RX.r x5):Int))) (Int.toNat (↑x12.1:Int)) ((0:Int),
      (0:Int))).1≤(↑k2:Int)∧(↑k2:Int) < (List.getD (gapI (Eng.RowD.mk pb po pn pc pz pf) (Int.toNat (↑(RX.r x5):Int))) (Int.toNat (↑x12.1:Int)) ((0:Int), (0:Int))).1+(↑x13.1:Int) then (1:Int) else rwI (Ent.mk 760 b2 0 1 (Int.toNat v4) (fun (k:Nat) ↦ SV.int IntKind.i64 (x12.2 k)) true false (Int.toNat v4) (3:Go.TypeId) false Option.none) k2)∧∀ (x14:Nat × (Nat→Int)), (x14.1≤List.length
      file∧(x14.1=0∨(List.getD (gapI (Eng.RowD.mk pb po pn pc pz pf) (Int.toNat (↑(RX.r x5):Int))) (Int.toNat (↑x12.1:Int)) ((0:Int), (0:Int))).1+(↑x14.1:Int)≤Min.min ((List.getD (gapI (Eng.RowD.mk pb po pn pc pz pf) (Int.toNat (↑(RX.r x5):Int))) (Int.toNat (↑x12.1:Int)) ((0:Int), (0:Int))).2) (↑(List.length file):Int))∧∀ (k:Nat), x14.2 k=if (List.getD (gapI (Eng.RowD.mk pb po pn pc pz pf) (Int.toNat
      (↑(RX.r x5):Int))) (Int.toNat (↑x12.1:Int)) ((0:Int), (0:Int))).1≤(↑k:Int)∧(↑k:Int) < (List.getD (gapI (Eng.RowD.mk pb po pn pc pz pf) (Int.toNat (↑(RX.r x5):Int))) (Int.toNat (↑x12.1:Int)) ((0:Int), (0:Int))).1+(↑x14.1:Int) then (1:Int) else rwI (Ent.mk 760 b2 0 1 (Int.toNat v4) (fun (k:Nat) ↦ SV.int IntKind.i64 (x12.2 k)) true false (Int.toNat v4) (3:Go.TypeId) false Option.none)
      k)→(b6=b6∧0=0)∧0≤(↑x12.1:Int)∧(↑x12.1:Int) < (↑(Eng.RowD.n ((pf (Int.toNat (↑(RX.r x5):Int))).1)):Int)∧(pf (Int.toNat (↑(RX.r x5):Int))).2=Option.none∧(Eng.RowD.b ((pf (Int.toNat (↑(RX.r x5):Int))).1), Eng.RowD.off ((pf (Int.toNat (↑(RX.r x5):Int))).1))=(Eng.RowD.b ((pf (Int.toNat (↑(RX.r x5):Int))).1), Eng.RowD.off ((pf (Int.toNat (↑(RX.r x5):Int))).1))∧Int.toNat (↑(RX.r x5):Int) < pn∧Int.toNat
      (↑x12.1:Int) < Eng.RowD.n ((pf (Int.toNat (↑(RX.r x5):Int))).1)∧∀ (v16:Int), v16=(↑(List.length file):Int)→∀ (t6:Bool), (t6=if decide ((List.getD (gapI (Eng.RowD.mk pb po pn pc pz pf) (Int.toNat (↑(RX.r x5):Int))) (Int.toNat (↑x12.1:Int)) ((0:Int), (0:Int))).1+(↑x14.1:Int) < ((Eng.RowD.f ((pf (Int.toNat (↑(RX.r x5):Int))).1) (Int.toNat (↑x12.1:Int))).2).1)=true then decide ((List.getD (gapI
      (Eng.RowD.mk pb po pn pc pz pf) (Int.toNat (↑(RX.r x5):Int))) (Int.toNat (↑x12.1:Int)) ((0:Int), (0:Int))).1+(↑x14.1:Int) < v16) else false)→(t6=true→(0:Int)≤(List.getD (gapI (Eng.RowD.mk pb po pn pc pz pf) (Int.toNat (↑(RX.r x5):Int))) (Int.toNat (↑x12.1:Int)) ((0:Int), (0:Int))).1+(↑x14.1:Int)∧(List.getD (gapI (Eng.RowD.mk pb po pn pc pz pf) (Int.toNat (↑(RX.r x5):Int))) (Int.toNat (↑x12.1:Int))
      ((0:Int), (0:Int))).1+(↑x14.1:Int) < (↑(Int.toNat v4):Int)∧(b2=b2∧0=0)∧Int.toNat ((List.getD (gapI (Eng.RowD.mk pb po pn pc pz pf) (Int.toNat (↑(RX.r x5):Int))) (Int.toNat (↑x12.1:Int)) ((0:Int), (0:Int))).1+(↑x14.1:Int)) < Int.toNat v4∧∀ (v17:Int), v17=IntKind.i64.wrap ((List.getD (gapI (Eng.RowD.mk pb po pn pc pz pf) (Int.toNat (↑(RX.r x5):Int))) (Int.toNat (↑x12.1:Int)) ((0:Int),
      (0:Int))).1+(↑x14.1:Int)+(1:Int))→∃ (x15:Nat × (Nat→Int)), v17=(List.getD (gapI (Eng.RowD.mk pb po pn pc pz pf) (Int.toNat (↑(RX.r x5):Int))) (Int.toNat (↑x12.1:Int)) ((0:Int), (0:Int))).1+(↑x15.1:Int)∧(b2=b2∧0=0∧0=0∧Int.toNat v4=Int.toNat v4∧Int.toNat v4=Int.toNat v4∧false=false)∧((b2=b2∧0=0∧false=false∧Int.toNat v4≤Int.toNat v4∧Int.toNat v4≤Int.toNat v4∧Int.toNat v4≤Int.toNat v4)∧∀ (i15:Nat), i15
      < Int.toNat v4→(if i15=Int.toNat ((List.getD (gapI (Eng.RowD.mk pb po pn pc pz pf) (Int.toNat (↑(RX.r x5):Int))) (Int.toNat (↑x12.1:Int)) ((0:Int), (0:Int))).1+(↑x14.1:Int)) then (1:Int) else x14.2 i15)=x15.2 i15)∧(x15.1≤List.length file∧(x15.1=0∨(List.getD (gapI (Eng.RowD.mk pb po pn pc pz pf) (Int.toNat (↑(RX.r x5):Int))) (Int.toNat (↑x12.1:Int)) ((0:Int), (0:Int))).1+(↑x15.1:Int)≤Min.min
      ((List.getD (gapI (Eng.RowD.mk pb po pn pc pz pf) (Int.toNat (↑(RX.r x5):Int))) (Int.toNat (↑x12.1:Int)) ((0:Int), (0:Int))).2) (↑(List.length file):Int))∧∀ (k3:Nat), x15.2 k3=if (List.getD (gapI (Eng.RowD.mk pb po pn pc pz pf) (Int.toNat (↑(RX.r x5):Int))) (Int.toNat (↑x12.1:Int)) ((0:Int), (0:Int))).1≤(↑k3:Int)∧(↑k3:Int) < (List.getD (gapI (Eng.RowD.mk pb po pn pc pz pf) (Int.toNat (↑(RX.r
      x5):Int))) (Int.toNat (↑x12.1:Int)) ((0:Int), (0:Int))).1+(↑x15.1:Int) then (1:Int) else rwI (Ent.mk 760 b2 0 1 (Int.toNat v4) (fun (k:Nat) ↦ SV.int IntKind.i64 (x12.2 k)) true false (Int.toNat v4) (3:Go.TypeId) false Option.none) k3)∧List.length file - x15.1 < List.length file - x14.1)∧(t6=false→∀ (v18:Int), v18=IntKind.i64.wrap ((↑x12.1:Int)+(1:Int))→∃ (x15:Nat × (Nat→Int)),
      v18=(↑x15.1:Int)∧(b2=b2∧0=0∧0=0∧Int.toNat v4=Int.toNat v4∧Int.toNat v4=Int.toNat v4∧false=false)∧((b2=b2∧0=0∧false=false∧Int.toNat v4≤Int.toNat v4∧Int.toNat v4≤Int.toNat v4∧Int.toNat v4≤Int.toNat v4)∧∀ (i15:Nat), i15 < Int.toNat v4→x14.2 i15=x15.2 i15)∧(x15.1≤List.length (gapI (Eng.RowD.mk pb po pn pc pz pf) (Int.toNat (↑(RX.r x5):Int)))∧gpI (List.length file) (List.take x15.1 (gapI (Eng.RowD.mk pb
      po pn pc pz pf) (Int.toNat (↑(RX.r x5):Int)))) x15.2)∧List.length (gapI (Eng.RowD.mk pb po pn pc pz pf) (Int.toNat (↑(RX.r x5):Int))) - x15.1 < List.length (gapI (Eng.RowD.mk pb po pn pc pz pf) (Int.toNat (↑(RX.r x5):Int))) - x12.1))∧(decide ((↑x12.1:Int) < v15)=false→∀ (v16:Int), v16=IntKind.i64.wrap ((↑(RX.r x5):Int)+(1:Int))→∃ (x15:RX), v16=(↑(RX.r x15):Int)∧(0=0∧RX.bS x7.2=RX.bS
      x15∧0=0)∧(b2=b2∧0=0∧0=0∧Int.toNat v4=Int.toNat v4∧Int.toNat v4=Int.toNat v4∧false=false)∧((x10.1=RX.bS x15∧0=0∧false=false∧1≤1∧1≤1∧1≤1)∧(10:Int)=10∧(5:Int)=5∧false=false∧(0=0∧0=0∧0=0∧0=0∧0=0∧true=true)∧x10.2.1=RX.bM x15∧(1:Int)=1)∧(∀ (i15:Nat), i15 < 1→∃ (x16:Nat), x16 < 1∧(x10.2.1, 0)=(RX.bM x15, 0)∧(∀ (v17:Int), decide (v17=(9:Int))=decide (v17=(9:Int)))∧∀ (v18:Int), decide
      (v18=(9:Int))=true→0=0∧SX.bT y3=SX.bT (RX.x x15)∧0=0)∧((SX.bT y3=SX.bT (RX.x x15)∧0=0∧false=false∧1≤1∧1≤1∧1≤1)∧(9:Int)=9∧(1:Int)=1∧SX.name y3=SX.name (RX.x x15)∧SX.file y3=SX.file (RX.x x15)∧(0:Int)=0∧SX.ph y3=SX.ph (RX.x x15)∧SX.tr y3=SX.tr (RX.x x15)∧SX.cl y3=SX.cl (RX.x x15)∧SX.me y3=SX.me (RX.x x15)∧SX.en y3=SX.en (RX.x x15)∧SX.sb y3=SX.sb (RX.x x15)∧SX.so y3=SX.so (RX.x x15)∧SX.si y3=SX.si
      (RX.x x15)∧SX.sn y3=SX.sn (RX.x x15)∧SX.sc y3=SX.sc (RX.x x15)∧SX.sz y3=SX.sz (RX.x x15))∧((SX.sb y3=SX.sb (RX.x x15)∧SX.so y3=SX.so (RX.x x15)∧SX.sz y3=SX.sz (RX.x x15)∧SX.sN (RX.x x15)≤SX.sN y3∧SX.sN (RX.x x15)≤SX.sN (RX.x x15)∧SX.sN (RX.x x15)≤SX.sN y3)∧∀ (i16:Nat), i16 < SX.sN (RX.x x15)→(SX.sf y3 i16).1=(SX.sf (RX.x x15) i16).1∧(SX.sf y3 i16).2=(SX.sf (RX.x x15)
      i16).2)∧((b2=b2∧0=0∧false=false∧Int.toNat v4≤Int.toNat v4∧Int.toNat v4≤Int.toNat v4∧Int.toNat v4≤Int.toNat v4)∧∀ (i17:Nat), i17 < Int.toNat v4→x12.2 i17=RX.f x15 i17)∧(RX.r x15≤pn∧ryI name file x15)∧pn+1 - RX.r x15 < pn+1 - RX.r x5))))))∧((!t4)=false→(goodB s1∧(unB s1).kind≤(3:Int))∧∀ (u1:U), u1=unB s1→∀ (v8:Int), v8=0→∀ (b5:Nat), (b5=b5∧0=0)∧(decide ((↑x7.1:Int) >
      (10000:Int))=true→false=true)∧(decide ((↑x7.1:Int) > (10000:Int))=false→((v8 != (0:Int))=false→b5=b5∧0=0)∧∀ (t5:Bool), (t5=if (v8 != (0:Int))=true then true else u1.number != (9:Int))→(t5=true→false=true)∧(t5=false→(b5=b5∧0=0)∧((u1.kind==(1:Int))=true→(b5=b5∧0=0)∧((!u1.name==name)=false→b5=b5∧0=0)∧∀ (v9:Int), v9=(↑(List.length file):Int)→∀ (t6:Bool), (t6=if (!u1.name==name)=true then true else
      u1.size != v9)→(t6=true→false=true)∧(t6=false→∀ (v10:Int), v10=IntKind.i64.wrap ((↑x7.1:Int)+(1:Int))→∃ (x10:Nat × RX), v10=(↑x10.1:Int)∧(0=0∧RX.bS x7.2=RX.bS x10.2∧0=0)∧(b2=b2∧0=0∧0=0∧Int.toNat v4=Int.toNat v4∧Int.toNat v4=Int.toNat v4∧false=false)∧((x8.1=RX.bS x10.2∧0=0∧false=false∧1≤1∧1≤1∧1≤1)∧(10:Int)=10∧(5:Int)=5∧false=false∧(0=0∧0=0∧0=0∧0=0∧0=0∧true=true)∧x8.2.1=RX.bM x10.2∧(1:Int)=1)∧(∀
      (i11:Nat), i11 < 1→∃ (x11:Nat), x11 < 1∧(x8.2.1, 0)=(RX.bM x10.2, 0)∧(∀ (v11:Int), decide (v11=(9:Int))=decide (v11=(9:Int)))∧∀ (v12:Int), decide (v12=(9:Int))=true→0=0∧SX.bT y2.1=SX.bT (RX.x x10.2)∧0=0)∧((SX.bT y2.1=SX.bT (RX.x x10.2)∧0=0∧false=false∧1≤1∧1≤1∧1≤1)∧(9:Int)=9∧(1:Int)=1∧SX.name y2.1=SX.name (RX.x x10.2)∧SX.file y2.1=SX.file (RX.x x10.2)∧(0:Int)=0∧SX.ph y2.1=SX.ph (RX.x x10.2)∧SX.tr
      y2.1=SX.tr (RX.x x10.2)∧SX.cl y2.1=SX.cl (RX.x x10.2)∧SX.me y2.1=SX.me (RX.x x10.2)∧SX.en y2.1=SX.en (RX.x x10.2)∧SX.sb y2.1=SX.sb (RX.x x10.2)∧SX.so y2.1=SX.so (RX.x x10.2)∧SX.si y2.1=SX.si (RX.x x10.2)∧SX.sn y2.1=SX.sn (RX.x x10.2)∧SX.sc y2.1=SX.sc (RX.x x10.2)∧SX.sz y2.1=SX.sz (RX.x x10.2))∧((SX.sb y2.1=SX.sb (RX.x x10.2)∧SX.so y2.1=SX.so (RX.x x10.2)∧SX.sz y2.1=SX.sz (RX.x x10.2)∧SX.sN (RX.x
      x10.2)≤SX.sN y2.1∧SX.sN (RX.x x10.2)≤SX.sN (RX.x x10.2)∧SX.sN (RX.x x10.2)≤SX.sN y2.1)∧∀ (i12:Nat), i12 < SX.sN (RX.x x10.2)→(SX.sf y2.1 i12).1=(SX.sf (RX.x x10.2) i12).1∧(SX.sf y2.1 i12).2=(SX.sf (RX.x x10.2) i12).2)∧((b2=b2∧0=0∧false=false∧Int.toNat v4≤Int.toNat v4∧Int.toNat v4≤Int.toNat v4∧Int.toNat v4≤Int.toNat v4)∧∀ (i13:Nat), i13 < Int.toNat v4→RX.f x7.2 i13=RX.f x10.2 i13)∧(ryI name file
      x10.2∧(↑(RX.r x10.2):Int)=(↑(RX.r x5):Int)∧x10.1+left (List.length file) x10.2≤5002)∧left (List.length file) x10.2 < left (List.length file) x7.2))∧((u1.kind==(1:Int))=false→((u1.kind==(2:Int))=true→(b5=b5∧0=0)∧(b5=b5∧0=0)∧∀ (v10:Int), v10=(↑(List.length u1.data):Int)→∀ (v11:Int), v11=IntKind.i64.wrap (u1.offset+v10)→∀ (v12:Int), v12=(↑(List.length file):Int)→(decide (v11 >
      v12)=false→b5=b5∧0=0)∧(decide (v11 > v12)=false→b5=b5∧0=0)∧(decide (v11 > v12)=false→b5=b5∧0=0)∧(decide (v11 > v12)=false→b5=b5∧0=0)∧∀ (v13:Int), v13=(↑(List.length u1.data):Int)→∀ (v14:Int), v14=IntKind.i64.wrap (u1.offset+v13)→(decide (v11 > v12)=false→0≤v14)∧(decide (v11 > v12)=false→v14≤(↑(List.length file):Int))∧(decide (v11 > v12)=false→(0:Int)≤u1.offset)∧(decide (v11 >
      v12)=false→u1.offset≤v14)∧∀ (t6:Bool), (t6=if decide (v11 > v12)=true then true else !u1.data==List.drop (Int.toNat u1.offset) (List.take (Int.toNat v14) file))→(t6=true→false=true)∧(t6=false→(∃ (x10:Nat × (Nat→Int)), 0=(↑x10.1:Int)∧(b2=b2∧0=0∧0=0∧Int.toNat v4=Int.toNat v4∧Int.toNat v4=Int.toNat v4∧false=false)∧((b2=b2∧0=0∧false=false∧Int.toNat v4≤Int.toNat v4∧Int.toNat v4≤Int.toNat v4∧Int.toNat
      v4≤Int.toNat v4)∧∀ (i11:Nat), i11 < Int.toNat v4→RX.f x7.2 i11=x10.2 i11)∧x10.1≤List.length (srS (fdV (SV.agg [SV.int IntKind.i64 u1.kind, SV.int IntKind.i64 u1.number, SV.str u1.name, SV.int IntKind.i64 u1.size, SV.int IntKind.u32 u1.sum, SV.int IntKind.i64 u1.offset, SV.str u1.data, SV.int IntKind.i64 u1.why, SV.int IntKind.i64 u1.of, SV.bool u1.me, SV.slice 999999 0 0 [] 0 0 0 0 true]) 6))∧∀
      (k1:Nat), x10.2 k1=rwI (Ent.mk 760 b2 0 1 (Int.toNat v4) (fun (k:Nat) ↦ SV.int IntKind.i64 (RX.f x7.2 k)) true false (Int.toNat v4) (3:Go.TypeId) false Option.none) k1 - if u1.offset≤(↑k1:Int)∧(↑k1:Int) < u1.offset+(↑x10.1:Int) then (1:Int) else (0:Int))∧∀ (x11:Nat × (Nat→Int)), (x11.1≤List.length (srS (fdV (SV.agg [SV.int IntKind.i64 u1.kind, SV.int IntKind.i64 u1.number, SV.str u1.name, SV.int
      IntKind.i64 u1.size, SV.int IntKind.u32 u1.sum, SV.int IntKind.i64 u1.offset, SV.str u1.data, SV.int IntKind.i64 u1.why, SV.int IntKind.i64 u1.of, SV.bool u1.me, SV.slice 999999 0 0 [] 0 0 0 0 true]) 6))∧∀ (k:Nat), x11.2 k=rwI (Ent.mk 760 b2 0 1 (Int.toNat v4) (fun (k:Nat) ↦ SV.int IntKind.i64 (RX.f x7.2 k)) true false (Int.toNat v4) (3:Go.TypeId) false Option.none) k - if
      u1.offset≤(↑k:Int)∧(↑k:Int) < u1.offset+(↑x11.1:Int) then (1:Int) else (0:Int))→(b5=b5∧0=0)∧∀ (v15:Int), v15=(↑(List.length u1.data):Int)→(decide ((↑x11.1:Int) < v15)=true→(b5=b5∧0=0)∧∀ (v16:Int), v16=IntKind.i64.wrap (u1.offset+(↑x11.1:Int))→0≤v16∧v16 < (↑(Int.toNat v4):Int)∧(b2=b2∧0=0)∧Int.toNat v16 < Int.toNat v4∧∀ (v17:Int), v17=IntKind.i64.wrap (x11.2 (Int.toNat v16) - (1:Int))→0≤v16∧v16 <
      (↑(Int.toNat v4):Int)∧(b2=b2∧0=0)∧Int.toNat v16 < Int.toNat v4∧(b5=b5∧0=0)∧∀ (v18:Int), v18=IntKind.i64.wrap (u1.offset+(↑x11.1:Int))→0≤v18∧v18 < (↑(Int.toNat v4):Int)∧(b2=b2∧0=0)∧Int.toNat v18 < Int.toNat v4∧(decide ((if Int.toNat v18=Int.toNat v16 then v17 else x11.2 (Int.toNat v18)) < (0:Int))=true→false=true)∧(decide ((if Int.toNat v18=Int.toNat v16 then v17 else x11.2 (Int.toNat v18)) <
      (0:Int))=false→∀ (v19:Int), v19=IntKind.i64.wrap ((↑x11.1:Int)+(1:Int))→∃ (x12:Nat × (Nat→Int)), v19=(↑x12.1:Int)∧(b2=b2∧0=0∧0=0∧Int.toNat v4=Int.toNat v4∧Int.toNat v4=Int.toNat v4∧false=false)∧((b2=b2∧0=0∧false=false∧Int.toNat v4≤Int.toNat v4∧Int.toNat v4≤Int.toNat v4∧Int.toNat v4≤Int.toNat v4)∧∀ (i12:Nat), i12 < Int.toNat v4→(if i12=Int.toNat v16 then v17 else x11.2 i12)=x12.2
      i12)∧(x12.1≤List.length (srS (fdV (SV.agg [SV.int IntKind.i64 u1.kind, SV.int IntKind.i64 u1.number, SV.str u1.name, SV.int IntKind.i64 u1.size, SV.int IntKind.u32 u1.sum, SV.int IntKind.i64 u1.offset, SV.str u1.data, SV.int IntKind.i64 u1.why, SV.int IntKind.i64 u1.of, SV.bool u1.me, SV.slice 999999 0 0 [] 0 0 0 0 true]) 6))∧∀ (k2:Nat), x12.2 k2=rwI (Ent.mk 760 b2 0 1 (Int.toNat v4) (fun (k:Nat) ↦
      SV.int IntKind.i64 (RX.f x7.2 k)) true false (Int.toNat v4) (3:Go.TypeId) false Option.none) k2 - if u1.offset≤(↑k2:Int)∧(↑k2:Int) < u1.offset+(↑x12.1:Int) then (1:Int) else (0:Int))∧List.length (srS (fdV (SV.agg [SV.int IntKind.i64 u1.kind, SV.int IntKind.i64 u1.number, SV.str u1.name, SV.int IntKind.i64 u1.size, SV.int IntKind.u32 u1.sum, SV.int IntKind.i64 u1.offset, SV.str u1.data, SV.int
      IntKind.i64 u1.why, SV.int IntKind.i64 u1.of, SV.bool u1.me, SV.slice 999999 0 0 [] 0 0 0 0 true]) 6)) - x12.1 < List.length (srS (fdV (SV.agg [SV.int IntKind.i64 u1.kind, SV.int IntKind.i64 u1.number, SV.str u1.name, SV.int IntKind.i64 u1.size, SV.int IntKind.u32 u1.sum, SV.int IntKind.i64 u1.offset, SV.str u1.data, SV.int IntKind.i64 u1.why, SV.int IntKind.i64 u1.of, SV.bool u1.me, SV.slice
      999999 0 0 [] 0 0 0 0 true]) 6)) - x11.1))∧(decide ((↑x11.1:Int) < v15)=false→∀ (v17:Int), v17=IntKind.i64.wrap ((↑x7.1:Int)+(1:Int))→∃ (x12:Nat × RX), v17=(↑x12.1:Int)∧(0=0∧RX.bS x7.2=RX.bS x12.2∧0=0)∧(b2=b2∧0=0∧0=0∧Int.toNat v4=Int.toNat v4∧Int.toNat v4=Int.toNat v4∧false=false)∧((x8.1=RX.bS
      x12.2∧0=0∧false=false∧1≤1∧1≤1∧1≤1)∧(10:Int)=10∧(5:Int)=5∧false=false∧(0=0∧0=0∧0=0∧0=0∧0=0∧true=true)∧x8.2.1=RX.bM x12.2∧(1:Int)=1)∧(∀ (i12:Nat), i12 < 1→∃ (x13:Nat), x13 < 1∧(x8.2.1, 0)=(RX.bM x12.2, 0)∧(∀ (v18:Int), decide (v18=(9:Int))=decide (v18=(9:Int)))∧∀ (v19:Int), decide (v19=(9:Int))=true→0=0∧SX.bT y2.1=SX.bT (RX.x x12.2)∧0=0)∧((SX.bT y2.1=SX.bT (RX.x
      x12.2)∧0=0∧false=false∧1≤1∧1≤1∧1≤1)∧(9:Int)=9∧(1:Int)=1∧SX.name y2.1=SX.name (RX.x x12.2)∧SX.file y2.1=SX.file (RX.x x12.2)∧(0:Int)=0∧SX.ph y2.1=SX.ph (RX.x x12.2)∧SX.tr y2.1=SX.tr (RX.x x12.2)∧SX.cl y2.1=SX.cl (RX.x x12.2)∧SX.me y2.1=SX.me (RX.x x12.2)∧SX.en y2.1=SX.en (RX.x x12.2)∧SX.sb y2.1=SX.sb (RX.x x12.2)∧SX.so y2.1=SX.so (RX.x x12.2)∧SX.si y2.1=SX.si (RX.x x12.2)∧SX.sn y2.1=SX.sn (RX.x
      x12.2)∧SX.sc y2.1=SX.sc (RX.x x12.2)∧SX.sz y2.1=SX.sz (RX.x x12.2))∧((SX.sb y2.1=SX.sb (RX.x x12.2)∧SX.so y2.1=SX.so (RX.x x12.2)∧SX.sz y2.1=SX.sz (RX.x x12.2)∧SX.sN (RX.x x12.2)≤SX.sN y2.1∧SX.sN (RX.x x12.2)≤SX.sN (RX.x x12.2)∧SX.sN (RX.x x12.2)≤SX.sN y2.1)∧∀ (i13:Nat), i13 < SX.sN (RX.x x12.2)→(SX.sf y2.1 i13).1=(SX.sf (RX.x x12.2) i13).1∧(SX.sf y2.1 i13).2=(SX.sf (RX.x x12.2)
      i13).2)∧((b2=b2∧0=0∧false=false∧Int.toNat v4≤Int.toNat v4∧Int.toNat v4≤Int.toNat v4∧Int.toNat v4≤Int.toNat v4)∧∀ (i14:Nat), i14 < Int.toNat v4→x11.2 i14=RX.f x12.2 i14)∧(ryI name file x12.2∧(↑(RX.r x12.2):Int)=(↑(RX.r x5):Int)∧x12.1+left (List.length file) x12.2≤5002)∧left (List.length file) x12.2 < left (List.length file) x7.2)))∧((u1.kind==(2:Int))=false→((u1.kind==(3:Int))=true→(decide ((↑(RX.r
      x5):Int) > (0:Int))=false→b5=b5∧0=0)∧∀ (t6:Bool), (t6=if decide ((↑(RX.r x5):Int) > (0:Int))=true then true else u1.why != (0:Int))→(t6=false→b5=b5∧0=0)∧∀ (v11:Int), v11=(↑(List.length file):Int)→∀ (t7:Bool), (t7=if t6=true then true else u1.size != v11)→(t7=false→b5=b5∧0=0)∧∀ (v12:Int), v12=crc32 file→∀ (t8:Bool), (t8=if t7=true then true else u1.sum != v12)→(t8=true→false=true)∧(t8=false→∀
      (v13:Int), v13=IntKind.i64.wrap ((↑x7.1:Int)+(1:Int))→∃ (x10:Nat × RX), v13=(↑x10.1:Int)∧(0=0∧RX.bS x7.2=RX.bS x10.2∧0=0)∧(b2=b2∧0=0∧0=0∧Int.toNat v4=Int.toNat v4∧Int.toNat v4=Int.toNat v4∧false=false)∧((x8.1=RX.bS x10.2∧0=0∧false=false∧1≤1∧1≤1∧1≤1)∧(10:Int)=10∧(5:Int)=5∧false=false∧(0=0∧0=0∧0=0∧0=0∧0=0∧true=true)∧x8.2.1=RX.bM x10.2∧(1:Int)=1)∧(∀ (i11:Nat), i11 < 1→∃ (x11:Nat), x11 < 1∧(x8.2.1,
      0)=(RX.bM x10.2, 0)∧(∀ (v14:Int), decide (v14=(9:Int))=decide (v14=(9:Int)))∧∀ (v15:Int), decide (v15=(9:Int))=true→0=0∧SX.bT y2.1=SX.bT (RX.x x10.2)∧0=0)∧((SX.bT y2.1=SX.bT (RX.x x10.2)∧0=0∧false=false∧1≤1∧1≤1∧1≤1)∧(9:Int)=9∧(1:Int)=1∧SX.name y2.1=SX.name (RX.x x10.2)∧SX.file y2.1=SX.file (RX.x x10.2)∧(0:Int)=0∧SX.ph y2.1=SX.ph (RX.x x10.2)∧SX.tr y2.1=SX.tr (RX.x x10.2)∧SX.cl y2.1=SX.cl (RX.x
      x10.2)∧SX.me y2.1=SX.me (RX.x x10.2)∧SX.en y2.1=SX.en (RX.x x10.2)∧SX.sb y2.1=SX.sb (RX.x x10.2)∧SX.so y2.1=SX.so (RX.x x10.2)∧SX.si y2.1=SX.si (RX.x x10.2)∧SX.sn y2.1=SX.sn (RX.x x10.2)∧SX.sc y2.1=SX.sc (RX.x x10.2)∧SX.sz y2.1=SX.sz (RX.x x10.2))∧((SX.sb y2.1=SX.sb (RX.x x10.2)∧SX.so y2.1=SX.so (RX.x x10.2)∧SX.sz y2.1=SX.sz (RX.x x10.2)∧SX.sN (RX.x x10.2)≤SX.sN y2.1∧SX.sN (RX.x x10.2)≤SX.sN (RX.x
      x10.2)∧SX.sN (RX.x x10.2)≤SX.sN y2.1)∧∀ (i12:Nat), i12 < SX.sN (RX.x x10.2)→(SX.sf y2.1 i12).1=(SX.sf (RX.x x10.2) i12).1∧(SX.sf y2.1 i12).2=(SX.sf (RX.x x10.2) i12).2)∧((b2=b2∧0=0∧false=false∧Int.toNat v4≤Int.toNat v4∧Int.toNat v4≤Int.toNat v4∧Int.toNat v4≤Int.toNat v4)∧∀ (i13:Nat), i13 < Int.toNat v4→RX.f x7.2 i13=RX.f x10.2 i13)∧(ryI name file x10.2∧(↑(RX.r x10.2):Int)=(↑(RX.r
      x5):Int)∧x10.1+left (List.length file) x10.2≤5002)∧left (List.length file) x10.2 < left (List.length file) x7.2))∧((u1.kind==(3:Int))=false→false=true)))))))∧(decide ((↑(RX.r x5):Int)≤v7)=false→(false=false→RX.bS x5=RX.bS x5∧0=0)∧(RX.bS x5=RX.bS x5∧0=0)∧∀ (b4:Nat), ((∀ (v8:Int), decide (v8=(9:Int))=true↔v8=9)∧(0:Int)≤9∧(9:Int) < 65536)∧0=0∧b4=b4∧0=0∧0 < 1∧RX.bM x5=RX.bM x5∧0 < 1∧∀ (y2:Nat × Nat ×
      Nat), 1≤y2.2.2→y2.2.2≤9223372036854775807→(y2.1=y2.1∧y2.2.1=y2.2.1)∧(0=0∧∀ (k1:Nat), k1 < 1→true=true)∧∀ (x'1:Eng.OwnD Int × Unit), x'1=(Eng.OwnD.mk y2.1 y2.2.1 1 y2.2.2 false 1 y2.2.2 false fun (k:Nat) ↦ (9:Int), ())→Eng.OwnD.n (Prod.fst x'1)≤Eng.OwnD.m (Prod.fst x'1)∧Eng.OwnD.n (Prod.fst x'1)≤1000000∧(Eng.OwnD.z (Prod.fst x'1)=true∨Eng.OwnD.ez (Prod.fst x'1)=false)∧∀ (y3:Unit), True→∀ (b5:Nat),
      (0:Int)≤0∧0 < (↑(1:Nat):Int)∧(Eng.OwnD.b (Prod.fst x'1)=y2.1∧Eng.OwnD.off (Prod.fst x'1)=y2.2.1)∧0 < Eng.OwnD.m (Prod.fst x'1)∧(0:Int)≤0∧0 < (↑(1:Nat):Int)∧(b5=b5∧0=0)∧0 < 1∧match sortF (Eng.OwnD.n (Prod.fst x'1)) (Eng.OwnD.f (Prod.fst x'1)) 0 != (9:Int) with | true => ∀ (t:Bool), t=false→eqv (SV.bool t) (SV.bool true) | false => ∀ (t:Bool), t=true→eqv (SV.bool t) (SV.bool true))))) (by kernel_rfl) ?_
  obtain ⟨n1, n2, ⟨n3, n4, n5⟩, _⟩ := hR
  dsimp only at n1 n2 n3 n4 n5
  refine fun v1 e1 v2 e2 t1 f1 t2 f2 v3 e3 t3 f3 => ⟨fun _ => rfl, fun q3 => ?_⟩
  have ht2 : t2 = false ∧ name.length ≤ 32 := by
    rw [f3] at q3
    split at q3
    · cases q3
    · rename_i h; exact ⟨by simpa using h, by have := of_decide_eq_false q3; omega⟩
  have ht1 : t1 = false ∧ 1 ≤ name.length := by
    have q2 := ht2.1
    rw [f2] at q2
    split at q2
    · cases q2
    · rename_i h
      refine ⟨by simpa using h, ?_⟩
      cases name with
      | nil => cases q2
      | cons a r => simp
  have hF : file.length ≤ 5000 ∧ pn ≤ 10 := by
    have q1 := ht1.1
    rw [f1] at q1
    split at q1
    · cases q1
    · rename_i h
      have h := of_decide_eq_false (by simpa using h : decide (v1 > 5000) = false)
      have := of_decide_eq_false q1
      omega
  obtain ⟨hF1, hF2⟩ := hF
  have hN := ht2.2
  have hN1 := ht1.2
  clear ht1 ht2 f1 f2 f3 q3 e1 e2 e3 t1 t2 t3 v1 v2 v3
  refine ⟨fun b1 b2 => ⟨(b2, b1), ⟨rfl, rfl, rfl⟩, rfl, ⟨⟨rfl, rfl, rfl, Nat.le_refl _, Nat.le_refl _, Nat.le_refl _⟩, rfl, rfl, rfl, ⟨rfl, rfl, rfl, rfl, rfl, rfl⟩, rfl, rfl⟩, fun _ _ => ⟨0, Nat.one_pos, rfl, fun _ => rfl, fun _ q => (by cases q)⟩, trivial⟩, fun ⟨bS, bM⟩ _ => ⟨(bS, bM, name, file), ⟨rfl, rfl, rfl⟩, rfl, rfl, rfl, ⟨⟨rfl, rfl, rfl, Nat.le_refl _, Nat.le_refl _, Nat.le_refl _⟩, rfl, rfl, rfl, ⟨rfl, rfl, rfl, rfl, rfl, rfl⟩, rfl, rfl⟩, fun _ _ => ⟨0, Nat.one_pos, rfl, fun _ => rfl, fun _ q => (by cases q)⟩, ⟨hN1, hN, hF1⟩, fun y1 hy v4 e4 => ?_⟩⟩
  subst e4
  refine ⟨by omega, Int.le_refl _, by omega, by omega, fun b2 => ⟨⟨0, rfl, ⟨rfl, rfl, rfl, rfl, rfl, rfl⟩, ⟨⟨rfl, rfl, rfl, Nat.le_refl _, Nat.le_refl _, Nat.le_refl _⟩, fun _ _ => (by simp)⟩, Nat.zero_le _⟩, fun i hi v5 e5 => ⟨fun hlt => ?_, fun hge => ⟨?_, ?_⟩⟩⟩⟩
  · have hlt := of_decide_eq_true hlt
    refine ⟨by omega, by omega, ⟨rfl, rfl⟩, by omega, fun v6 e6 => ⟨i + 1, e6.trans (l_succ (by omega)), ⟨rfl, rfl, rfl, rfl, rfl, rfl⟩, ⟨⟨rfl, rfl, rfl, Nat.le_refl _, Nat.le_refl _, Nat.le_refl _⟩, fun k hk => ?_⟩, by omega, by omega⟩⟩
    rw [Int.toNat_natCast]
    split <;> split <;> (try split) <;> first | rfl | omega
  · have hge := of_decide_eq_false hge
    have hi : i = file.length := by omega
    subst hi
    obtain ⟨s1, s2, s3, s4, s5, s6, s7⟩ := hy
    exact ⟨⟨bS, bM, y1, 0, fun k => if k < file.length then 1 else 0⟩, rfl, ⟨rfl, rfl, rfl⟩, ⟨rfl, rfl, rfl, rfl, rfl, rfl⟩, ⟨⟨rfl, rfl, rfl, Nat.le_refl _, Nat.le_refl _, Nat.le_refl _⟩, rfl, rfl, rfl, ⟨rfl, rfl, rfl, rfl, rfl, rfl⟩, rfl, rfl⟩, fun _ _ => ⟨0, Nat.one_pos, rfl, fun _ => rfl, fun _ _ => ⟨rfl, rfl, rfl⟩⟩, ⟨⟨rfl, rfl, rfl, Nat.le_refl _, Nat.le_refl _, Nat.le_refl _⟩, rfl, rfl, rfl, rfl, rfl, rfl, rfl, rfl, rfl, rfl, rfl, rfl, rfl, rfl, rfl, rfl⟩, ⟨⟨rfl, rfl, rfl, Nat.le_refl _, Nat.le_refl _, Nat.le_refl _⟩, fun _ _ => ⟨rfl, rfl⟩⟩, ⟨⟨rfl, rfl, rfl, Nat.le_refl _, Nat.le_refl _, Nat.le_refl _⟩, fun _ _ => rfl⟩, Nat.zero_le _, s1, s2, s3, fun k hk => .inl ⟨if_pos hk, (s7 k).2 ⟨by omega, by show (k : Int) < file.length; omega⟩⟩, fun q => absurd q (Nat.lt_irrefl _), s6⟩
  clear hge hi hy y1
  clear e5 i
  rintro ⟨bS1, bM1, x, r, f⟩ ⟨hr, hI⟩ v7 e7
  dsimp only at hr hI ⊢
  refine ⟨fun _ => ⟨⟨(0, ⟨bS1, bM1, x, r, f⟩), rfl, ⟨rfl, rfl, rfl⟩, ⟨rfl, rfl, rfl, rfl, rfl, rfl⟩, ⟨⟨rfl, rfl, rfl, Nat.le_refl _, Nat.le_refl _, Nat.le_refl _⟩, rfl, rfl, rfl, ⟨rfl, rfl, rfl, rfl, rfl, rfl⟩, rfl, rfl⟩, fun _ _ => ⟨0, Nat.one_pos, rfl, fun _ => rfl, fun _ _ => ⟨rfl, rfl, rfl⟩⟩, ⟨⟨rfl, rfl, rfl, Nat.le_refl _, Nat.le_refl _, Nat.le_refl _⟩, rfl, rfl, rfl, rfl, rfl, rfl, rfl, rfl, rfl, rfl, rfl, rfl, rfl, rfl, rfl, rfl⟩, ⟨⟨rfl, rfl, rfl, Nat.le_refl _, Nat.le_refl _, Nat.le_refl _⟩, fun _ _ => ⟨rfl, rfl⟩⟩, ⟨⟨rfl, rfl, rfl, Nat.le_refl _, Nat.le_refl _, Nat.le_refl _⟩, fun _ _ => rfl⟩, hI, rfl, by have := left_le hI.2.2.2.1 hF1; dsimp only; omega⟩, ?_⟩, fun q => absurd (of_decide_eq_false q) (by omega)⟩
  clear hI
  rintro ⟨t, bS1, bM1, x, r2, f⟩ ⟨hI, hrr, hT⟩
  dsimp only at hI hrr hT ⊢
  have hrr : r2 = r := by omega
  subst hrr
  refine ⟨(bS1, bM1, x), ⟨rfl, rfl, rfl⟩, ⟨⟨rfl, rfl, rfl, Nat.le_refl _, Nat.le_refl _, Nat.le_refl _⟩, rfl, rfl, rfl, ⟨rfl, rfl, rfl, rfl, rfl, rfl⟩, rfl, rfl⟩, fun _ _ => ⟨0, Nat.one_pos, rfl, fun _ => rfl, fun _ _ => ⟨rfl, rfl, rfl⟩⟩, ⟨⟨rfl, rfl, rfl, Nat.le_refl _, Nat.le_refl _, Nat.le_refl _⟩, rfl, rfl, rfl, rfl, rfl, rfl, rfl, rfl, rfl, rfl, rfl, rfl, rfl, rfl, rfl, rfl⟩, ⟨⟨rfl, rfl, rfl, Nat.le_refl _, Nat.le_refl _, Nat.le_refl _⟩, fun _ _ => ⟨rfl, rfl⟩⟩, hI.1, ?_⟩
  rintro ⟨y, s, is⟩ hy s1 es t4 et
  dsimp only at hy es et ⊢
  subst es et
  obtain ⟨hok, hbT, hyn, hyf, hcase⟩ := hy
  dsimp only at hok hbT hyn hyf hcase
  have hNx : nxOk x := hI.1
  have hIn : x.name = name := hI.2.1
  have hIf : x.file = file := hI.2.2.1
  have hdue : dueI file.length f (spL x) := hI.2.2.2.1
  have hen : 0 < r2 → x.en = false := hI.2.2.2.2.1
  have hsn : x.sn ≤ 1 + 20 * r2 := hI.2.2.2.2.2
  refine ⟨fun q4 => ?_, fun q4 => ?_⟩
  · have q4 : t4 = false := by simpa using q4
    have hq : spL x = [] ∧ y.en = false ∧ y.me = false ∧ spL y = [] := by
      rcases hcase with ⟨_, h2, _⟩ | ⟨_, ⟨a, e, rr, _, h2, _⟩, _⟩ | ⟨_, _, _, h2, _⟩ | ⟨_, c2, _, _, c5, c6, c7⟩
      · exact absurd ((congrArg Prod.snd h2).symm.trans q4) (by simp)
      · exact absurd ((congrArg Prod.snd h2).symm.trans q4) (by simp)
      · exact absurd ((congrArg Prod.snd h2).symm.trans q4) (by simp)
      · exact ⟨c2, c6, c5, c7⟩
    obtain ⟨hsp, hyen, hyme, hysp⟩ := hq
    have h0 : ∀ k, k < file.length → f k = 0 := fun k hk => by
      rcases hdue k hk with ⟨_, h⟩ | ⟨h, _⟩
      · rw [hsp] at h; exact absurd h (inL_nil _)
      · exact h
    have hyn0 : y.sn = 0 := by rw [← spL_len, hysp]; rfl
    clear hcase hdue hT hI hNx
    refine ⟨⟨0, rfl, Nat.zero_le _⟩, fun i hi v8 e8 => ⟨fun hlt => ?_, fun hge v10 e10 => ⟨fun heq => ?_, fun hne => ?_⟩⟩⟩
    · have hlt := of_decide_eq_true hlt
      refine ⟨by omega, by omega, ⟨rfl, rfl⟩, by omega, fun hb => ?_, fun _ v9 e9 => ⟨i + 1, e9.trans (l_succ (by omega)), by omega, by omega⟩⟩
      rw [Int.toNat_natCast, h0 i (by omega)] at hb
      exact absurd hb (by decide)
    · refine ⟨fun _ => ⟨rfl, rfl⟩, ⟨rfl, rfl⟩, fun b5 => ⟨⟨fun _ => decide_eq_true_iff, by decide, by decide⟩, rfl, rfl, rfl, Nat.one_pos, rfl, Nat.one_pos, fun y3 h1 h2 => ⟨⟨rfl, rfl⟩, ⟨rfl, fun _ _ => rfl⟩, ?_⟩⟩⟩
      rintro x' rfl
      refine ⟨Nat.le_refl _, Nat.le_of_ble_eq_true rfl, .inr rfl, fun _ _ b6 => ⟨Int.le_refl _, by decide, ⟨rfl, rfl⟩, Nat.one_pos, Int.le_refl _, by decide, ⟨rfl, rfl⟩, Nat.one_pos, ?_⟩⟩
      dsimp only
      rw [sort9]
      exact fun t ht => ht
    · have hrn : (r2 : Int) ≠ v10 := fun h => by rw [h] at hne; simp at hne
      have hn16 := n5 r2 (by omega)
      rw [Int.toNat_natCast]
      generalize hpg : pf r2 = pg at hn16 ⊢
      obtain ⟨⟨gb, go, gn, gc, gz, gf⟩, gsp⟩ := pg
      dsimp only at hn16 ⊢
      obtain ⟨m1, m2, m3, m4⟩ := hn16
      have hgI : gapI ⟨pb, po, pn, pc, pz, pf⟩ r2 = gapsOf ⟨gb, go, gn, gc, gz, gf⟩ := by unfold gapI; dsimp only; rw [hpg]
      rw [hgI]
      refine ⟨by omega, by omega, ⟨rfl, rfl⟩, by omega, fun b6 => ⟨⟨rfl, rfl⟩, ⟨rfl, rfl⟩, ⟨rfl, rfl, rfl, rfl, rfl, rfl, rfl, rfl, rfl, rfl⟩, by omega, m4, Nat.le_refl _, fun _ _ => rfl, rfl, by omega, fun s2 es2 v11 ev => ⟨fun hbad v12 e12 => ?_, fun hgood => ?_⟩⟩⟩
      · exact ⟨⟨bS1, bM1, y, r2 + 1, f⟩, e12.trans (l_succ (by omega)), ⟨rfl, rfl, rfl⟩, ⟨rfl, rfl, rfl, rfl, rfl, rfl⟩, ⟨⟨rfl, rfl, rfl, Nat.le_refl _, Nat.le_refl _, Nat.le_refl _⟩, rfl, rfl, rfl, ⟨rfl, rfl, rfl, rfl, rfl, rfl⟩, rfl, rfl⟩, fun _ _ => ⟨0, Nat.one_pos, rfl, fun _ => rfl, fun _ _ => ⟨rfl, rfl, rfl⟩⟩, ⟨⟨rfl, rfl, rfl, Nat.le_refl _, Nat.le_refl _, Nat.le_refl _⟩, rfl, rfl, rfl, rfl, rfl, rfl, rfl, rfl, rfl, rfl, rfl, rfl, rfl, rfl, rfl, rfl⟩, ⟨⟨rfl, rfl, rfl, Nat.le_refl _, Nat.le_refl _, Nat.le_refl _⟩, fun _ _ => ⟨rfl, rfl⟩⟩, ⟨⟨rfl, rfl, rfl, Nat.le_refl _, Nat.le_refl _, Nat.le_refl _⟩, fun _ _ => rfl⟩, ⟨by dsimp only; omega, hok, hyn.trans hIn, hyf.trans hIf, fun k hk => .inr ⟨h0 k hk, by rw [hysp]; exact inL_nil _⟩, fun _ => hyen, by dsimp only; omega⟩, by dsimp only; omega⟩
      subst es2 ev
      have hoku : okU (uG ⟨gb, go, gn, gc, gz, gf⟩) := by
        by_cases h : okU (uG ⟨gb, go, gn, gc, gz, gf⟩)
        · exact h
        · rw [putE, if_neg h] at hgood; exact absurd hgood (by decide)
      have hun := unB_putU hoku (by decide : inR 0 0 4294967295)
      have hgd := goodB_putU hoku (by decide : inR 0 0 4294967295)
      have hfit : gapsOk (-1) (gapsOf ⟨gb, go, gn, gc, gz, gf⟩) ∧ (gapsOf ⟨gb, go, gn, gc, gz, gf⟩).length ≤ 20 ∧ (false = true ∨ 0 < (gapsOf ⟨gb, go, gn, gc, gz, gf⟩).length) := hoku.2.1
      have hgl : (gapsOf ⟨gb, go, gn, gc, gz, gf⟩).length = gn := gapsOf_len _
      have hgi := gaps_in _ _ hfit.1 (by decide)
      have hg20 : gn ≤ 20 := by have := hfit.2.1; omega
      have hgeg : ∀ i, i < gn → (gapsOf ⟨gb, go, gn, gc, gz, gf⟩).getD i (0, 0) = ((gf i).1, (gf i).2.1) := fun i hi => by simp [gapsOf, List.getD, hi]
      clear hfit
      refine ⟨(bS1, bM1, y, putU (uG ⟨gb, go, gn, gc, gz, gf⟩)), ⟨rfl, rfl, rfl⟩, rfl, ⟨⟨rfl, rfl, rfl, Nat.le_refl _, Nat.le_refl _, Nat.le_refl _⟩, rfl, rfl, rfl, ⟨rfl, rfl, rfl, rfl, rfl, rfl⟩, rfl, rfl⟩, fun _ _ => ⟨0, Nat.one_pos, rfl, fun _ => rfl, fun _ _ => ⟨rfl, rfl, rfl⟩⟩, ⟨⟨rfl, rfl, rfl, Nat.le_refl _, Nat.le_refl _, Nat.le_refl _⟩, rfl, rfl, rfl, rfl, rfl, rfl, rfl, rfl, rfl, rfl, rfl, rfl, rfl, rfl, rfl, rfl⟩, ⟨⟨rfl, rfl, rfl, Nat.le_refl _, Nat.le_refl _, Nat.le_refl _⟩, fun _ _ => ⟨rfl, rfl⟩⟩, ⟨hok, ?_⟩, fun y3 hy3 v13 e13 v14 e14 t5 f5 => ?_⟩
      · unfold taOk
        dsimp only
        rw [hun]
        refine ⟨hgd, rfl, fun g hg => by have := hgi g hg; omega, ?_⟩
        show y.sn + (gapsOf ⟨gb, go, gn, gc, gz, gf⟩).length ≤ 999
        omega
      obtain ⟨k1, k2, k3, k4⟩ := hy3
      dsimp only at k1 k2 k3 k4
      rw [hun] at k2 k3 k4
      have k3 : y3.sn ≤ y.sn + (gapsOf ⟨gb, go, gn, gc, gz, gf⟩).length := k3
      have k4 : ∀ z, inL (spL y3) z ↔ inL (spL y) z ∨ inG y.file.length (gapsOf ⟨gb, go, gn, gc, gz, gf⟩) z := k4
      rw [hysp, hyf, hIf] at k4
      subst e13 e14
      refine ⟨fun q => absurd (f5.symm.trans q) (by decide), fun _ => ⟨⟨(0, f), rfl, ⟨rfl, rfl, rfl, rfl, rfl, rfl⟩, ⟨⟨rfl, rfl, rfl, Nat.le_refl _, Nat.le_refl _, Nat.le_refl _⟩, fun _ _ => rfl⟩, Nat.zero_le _, gp_nil h0⟩, ?_⟩⟩
      rintro ⟨i, f1⟩ ⟨i1, i2⟩
      dsimp only at i1 i2 ⊢
      rw [hgl] at i1
      refine ⟨⟨rfl, rfl⟩, fun v15 e15 => ⟨fun hlt => ?_, fun hge v16 e16 => ?_⟩⟩
      · have hi : i < gn := by have := of_decide_eq_true hlt; omega
        have eg := hgeg i hi
        have hb := hgi ((gf i).1, (gf i).2.1) (by rw [← eg, List.getD_eq_getElem?_getD, List.getElem?_eq_getElem (by omega)]; exact List.getElem_mem _)
        dsimp only at hb
        rw [Int.toNat_natCast, eg]
        dsimp only
        refine ⟨⟨rfl, rfl⟩, by omega, by omega, m4 (by omega), rfl, by omega, by omega, ⟨(0, f1), (Int.add_zero _).symm, ⟨rfl, rfl, rfl, rfl, rfl, rfl⟩, ⟨⟨rfl, rfl, rfl, Nat.le_refl _, Nat.le_refl _, Nat.le_refl _⟩, fun _ _ => rfl⟩, Nat.zero_le _, .inl rfl, fun k => ?_⟩, ?_⟩
        · rw [if_neg (by omega)]; rfl
        rintro ⟨j, f2⟩ ⟨j1, j2, j3⟩
        dsimp only at j1 j2 j3 ⊢
        refine ⟨⟨rfl, rfl⟩, by omega, by omega, m4 (by omega), rfl, by omega, by omega, fun v16 e16 t6 f6 => ⟨fun ht => ?_, fun hf v18 e18 => ?_⟩⟩
        · have hc : (gf i).1 + (j : Int) < (gf i).2.1 ∧ (gf i).1 + (j : Int) < file.length := by
            rw [f6] at ht
            split at ht
            · rename_i q
              have := of_decide_eq_true q
              have := of_decide_eq_true ht
              omega
            · cases ht
          refine ⟨by omega, by omega, ⟨rfl, rfl⟩, by omega, fun v17 e17 => ⟨(j + 1, fun k => if k = Int.toNat ((gf i).1 + (j : Int)) then 1 else f2 k), ?_, ⟨rfl, rfl, rfl, rfl, rfl, rfl⟩, ⟨⟨rfl, rfl, rfl, Nat.le_refl _, Nat.le_refl _, Nat.le_refl _⟩, fun _ _ => rfl⟩, ⟨by omega, .inr (by omega), fun k => ?_⟩, by omega⟩⟩
          · rw [e17, w64_id (by omega) (by omega)]; omega
          · dsimp only
            rw [j3 k]
            by_cases q1 : k = Int.toNat ((gf i).1 + (j : Int))
            · rw [if_pos q1, if_pos (by omega)]
            · rw [if_neg q1]
              by_cases q2 : (gf i).1 ≤ (k : Int) ∧ (k : Int) < (gf i).1 + (j : Int)
              · rw [if_pos q2, if_pos (by omega)]
              · rw [if_neg q2, if_neg (by omega)]
        · have hc : ¬ ((gf i).1 + (j : Int) < (gf i).2.1 ∧ (gf i).1 + (j : Int) < file.length) := by
            rintro ⟨h1, h2⟩
            rw [f6, if_pos (decide_eq_true h1)] at hf
            have := of_decide_eq_false hf
            omega
          refine ⟨(i + 1, f2), e18.trans (l_succ (by omega)), ⟨rfl, rfl, rfl, rfl, rfl, rfl⟩, ⟨⟨rfl, rfl, rfl, Nat.le_refl _, Nat.le_refl _, Nat.le_refl _⟩, fun _ _ => rfl⟩, ⟨by dsimp only; omega, gp_step (by omega) i2 (j := j) (by rw [eg]; dsimp only; omega) (by rw [eg]; dsimp only; omega) (by rw [eg]; exact j3)⟩, by dsimp only; omega⟩
      · have hi : i = gn := by have := of_decide_eq_false hge; omega
        subst hi
        rw [List.take_of_length_le (by omega)] at i2
        exact ⟨⟨bS1, bM1, y3, r2 + 1, f1⟩, e16.trans (l_succ (by omega)), ⟨rfl, rfl, rfl⟩, ⟨rfl, rfl, rfl, rfl, rfl, rfl⟩, ⟨⟨rfl, rfl, rfl, Nat.le_refl _, Nat.le_refl _, Nat.le_refl _⟩, rfl, rfl, rfl, ⟨rfl, rfl, rfl, rfl, rfl, rfl⟩, rfl, rfl⟩, fun _ _ => ⟨0, Nat.one_pos, rfl, fun _ => rfl, fun _ _ => ⟨rfl, rfl, rfl⟩⟩, ⟨⟨rfl, rfl, rfl, Nat.le_refl _, Nat.le_refl _, Nat.le_refl _⟩, rfl, rfl, rfl, rfl, rfl, rfl, rfl, rfl, rfl, rfl, rfl, rfl, rfl, rfl, rfl, rfl⟩, ⟨⟨rfl, rfl, rfl, Nat.le_refl _, Nat.le_refl _, Nat.le_refl _⟩, fun _ _ => ⟨rfl, rfl⟩⟩, ⟨⟨rfl, rfl, rfl, Nat.le_refl _, Nat.le_refl _, Nat.le_refl _⟩, fun _ _ => rfl⟩, ⟨by dsimp only; omega, k1, k2.2.1.trans (hyn.trans hIn), k2.2.2.1.trans (hyf.trans hIf), due_gap k4 i2, fun _ => k2.2.2.2.2.2.2.2.trans hyen, by dsimp only; omega⟩, by dsimp only; omega⟩
  · have q4 : t4 = true := by simpa using q4
    have hL : ∀ {g : Nat → Int} {e : Nat}, cnt g file.length + (if y.me = true then 1 else 0) + (if y.en = true then 1 else 0) + 1 ≤ e → left file.length ⟨bS1, bM1, y, r2, g⟩ + 1 ≤ e := fun h => h
    have hT' : t + (cnt f file.length + (if x.me = true then 1 else 0) + (if x.en = true then 1 else 0)) ≤ 5002 := hT
    rcases hcase with ⟨c1, c2, c3, c4, c5⟩ | ⟨c1, ⟨a, e, rr, c2, c3, c4⟩, c5, c6⟩ | ⟨c1, c2, c3, c4, c5, c6, c7⟩ | ⟨_, _, _, h2, _⟩
    · obtain rfl : s1 = putU (uMe9 x) := congrArg Prod.fst c2
      have hu := unB_putU (ok_me hNx) (by decide : inR 0 0 4294967295)
      have hl : left file.length ⟨bS1, bM1, y, r2, f⟩ + 1 = left file.length ⟨bS1, bM1, x, r2, f⟩ := by
        unfold left
        rw [c1, c3, c4]
        simp
        omega
      refine ⟨⟨goodB_putU (ok_me hNx) (by decide : inR 0 0 4294967295), by rw [hu]; exact (by decide : (1 : Int) ≤ 3)⟩, fun u eu v8 e8 b5 => ?_⟩
      rw [hu] at eu
      subst eu e8
      refine ⟨⟨rfl, rfl⟩, fun q => absurd (of_decide_eq_true q) (by omega), fun _ => ⟨fun _ => ⟨rfl, rfl⟩, fun t5 f5 => ⟨fun q => absurd (f5.symm.trans q) (by simp [uMe9]), fun _ => ⟨⟨rfl, rfl⟩, fun _ => ⟨⟨rfl, rfl⟩, fun _ => ⟨rfl, rfl⟩, fun v9 e9 t6 f6 => ⟨fun q => absurd (f6.symm.trans q) (by simp [uMe9, hIn, hIf, e9]), fun _ v10 e10 => ?_⟩⟩, fun q => absurd q (by simp [uMe9])⟩⟩⟩⟩
      exact ⟨(t + 1, ⟨bS1, bM1, y, r2, f⟩), e10.trans (l_succ (by omega)), ⟨rfl, rfl, rfl⟩, ⟨rfl, rfl, rfl, rfl, rfl, rfl⟩, ⟨⟨rfl, rfl, rfl, Nat.le_refl _, Nat.le_refl _, Nat.le_refl _⟩, rfl, rfl, rfl, ⟨rfl, rfl, rfl, rfl, rfl, rfl⟩, rfl, rfl⟩, fun _ _ => ⟨0, Nat.one_pos, rfl, fun _ => rfl, fun _ _ => ⟨rfl, rfl, rfl⟩⟩, ⟨⟨rfl, rfl, rfl, Nat.le_refl _, Nat.le_refl _, Nat.le_refl _⟩, rfl, rfl, rfl, rfl, rfl, rfl, rfl, rfl, rfl, rfl, rfl, rfl, rfl, rfl, rfl, rfl⟩, ⟨⟨rfl, rfl, rfl, Nat.le_refl _, Nat.le_refl _, Nat.le_refl _⟩, fun _ _ => ⟨rfl, rfl⟩⟩, ⟨⟨rfl, rfl, rfl, Nat.le_refl _, Nat.le_refl _, Nat.le_refl _⟩, fun _ _ => rfl⟩, ⟨ry_step hI hok hyn hyf (by rw [c5]; exact hdue) (fun h => by rw [c4] at h; exact h) (by have := spL_len y; rw [c5, spL_len] at this; show y.sn ≤ _; dsimp only; omega) bS1 bM1, rfl, by dsimp only; omega⟩, by dsimp only; omega⟩
    · generalize hm : min e (a + 160) = m at c3 c4
      obtain rfl : s1 = putU (uDa9 x a m) := congrArg Prod.fst c3
      obtain ⟨hou, hlen, ha0, ham, hmF⟩ := ok_da hNx c2 hm.symm
      have hu := unB_putU hou (by decide : inR 0 0 4294967295)
      have hS : Sp file.length ((a, e) :: rr) := by rw [← c2, ← hIf]; exact hNx.2.1
      have hd' : dueI file.length f ((a, e) :: rr) := by rw [← c2]; exact hdue
      refine ⟨⟨goodB_putU hou (by decide : inR 0 0 4294967295), by rw [hu]; exact (by decide : (2 : Int) ≤ 3)⟩, fun u eu v8 e8 b5 => ?_⟩
      rw [hu] at eu
      subst eu e8
      refine ⟨⟨rfl, rfl⟩, fun q => absurd (of_decide_eq_true q) (by omega), fun _ => ⟨fun _ => ⟨rfl, rfl⟩, fun t5 f5 => ⟨fun q => absurd (f5.symm.trans q) (by simp [uDa9]), fun _ => ⟨⟨rfl, rfl⟩, fun q => absurd q (by simp [uDa9]), fun _ => ⟨fun _ => ?_, fun q => absurd q (by simp [uDa9])⟩⟩⟩⟩⟩
      rw [hIf] at hmF
      have hfa : ∀ j : Nat, a + (j : Int) < m → f (a + (j : Int)).toNat = 1 := fun j hj => by
        rcases hd' (a + (j : Int)).toNat (by omega) with ⟨h, _⟩ | ⟨_, h⟩
        · exact h
        · exact absurd ⟨(a, e), List.mem_cons_self .., by dsimp only; omega, by dsimp only; omega⟩ h
      refine ⟨⟨rfl, rfl⟩, ⟨rfl, rfl⟩, fun v10 e10 v11 e11 v12 e12 => ?_⟩
      have e10 : v10 = m - a := e10.trans hlen
      have e11 : v11 = m := e11.trans (show IntKind.i64.wrap (a + v10) = m by rw [w64_id (by omega) (by omega)]; omega)
      refine ⟨fun _ => ⟨rfl, rfl⟩, fun _ => ⟨rfl, rfl⟩, fun _ => ⟨rfl, rfl⟩, fun _ => ⟨rfl, rfl⟩, fun v13 e13 v14 e14 => ?_⟩
      have e13 : v13 = m - a := e13.trans hlen
      have e14 : v14 = m := e14.trans (show IntKind.i64.wrap (a + v13) = m by rw [w64_id (by omega) (by omega)]; omega)
      refine ⟨fun _ => by omega, fun _ => by omega, fun _ => ha0, fun _ => by show a ≤ v14; omega, fun t6 f6 => ⟨fun q => ?_, fun _ => ⟨?_, ?_⟩⟩⟩
      · rw [f6, if_neg (by simp; omega), e14] at q
        have q : (!(List.drop a.toNat (List.take m.toNat x.file) == List.drop a.toNat (List.take m.toNat file))) = true := q
        rw [hIf] at q
        simp at q
      · refine ⟨(0, f), rfl, ⟨rfl, rfl, rfl, rfl, rfl, rfl⟩, ⟨⟨rfl, rfl, rfl, Nat.le_refl _, Nat.le_refl _, Nat.le_refl _⟩, fun _ _ => rfl⟩, Nat.zero_le _, fun k => ?_⟩
        rw [if_neg (by show ¬ (a ≤ (k : Int) ∧ (k : Int) < a + ((0 : Nat) : Int)); omega)]
        exact (Int.sub_zero _).symm
      rintro ⟨j, f2⟩ ⟨j1, j2⟩
      have j1 : j ≤ ((x.file.take m.toNat).drop a.toNat).length := j1
      have j2 : ∀ k : Nat, f2 k = f k - if a ≤ (k : Int) ∧ (k : Int) < a + (j : Int) then 1 else 0 := j2
      refine ⟨⟨rfl, rfl⟩, fun v15 e15 => ⟨fun hlt => ⟨⟨rfl, rfl⟩, fun v16 e16 => ?_⟩, fun hge v16 e16 => ?_⟩⟩
      · have hlt := of_decide_eq_true hlt
        have e15 : v15 = m - a := e15.trans hlen
        have e16 : v16 = a + (j : Int) := e16.trans (w64_id (by show _ ≤ a + (j : Int); omega) (by show a + (j : Int) ≤ _; omega))
        dsimp only at hlt
        subst e16
        have h1 : f2 (a + (j : Int)).toNat = 1 := by rw [j2, if_neg (by omega), hfa j (by omega)]; rfl
        refine ⟨by omega, by omega, ⟨rfl, rfl⟩, by omega, fun v17 e17 => ?_⟩
        dsimp only at e17
        have e17 : v17 = 0 := by rw [e17, h1]; decide
        subst e17
        refine ⟨by omega, by omega, ⟨rfl, rfl⟩, by omega, ⟨rfl, rfl⟩, fun v18 e18 => ?_⟩
        have e18 : v18 = a + (j : Int) := e18.trans (w64_id (by show _ ≤ a + (j : Int); omega) (by show a + (j : Int) ≤ _; omega))
        subst e18
        refine ⟨by omega, by omega, ⟨rfl, rfl⟩, by omega, fun q => ?_, fun _ v19 e19 => ⟨(j + 1, fun k => if k = Int.toNat (a + (j : Int)) then 0 else f2 k), e19.trans (l_succ (by omega)), ⟨rfl, rfl, rfl, rfl, rfl, rfl⟩, ⟨⟨rfl, rfl, rfl, Nat.le_refl _, Nat.le_refl _, Nat.le_refl _⟩, fun _ _ => rfl⟩, ⟨by show j + 1 ≤ ((x.file.take m.toNat).drop a.toNat).length; omega, fun k => ?_⟩, by show ((x.file.take m.toNat).drop a.toNat).length - (j + 1) < ((x.file.take m.toNat).drop a.toNat).length - j; omega⟩⟩
        · rw [if_pos rfl] at q
          exact absurd q (by decide)
        · show (if k = Int.toNat (a + (j : Int)) then 0 else f2 k) = f k - if a ≤ (k : Int) ∧ (k : Int) < a + ((j + 1 : Nat) : Int) then 1 else 0
          by_cases q1 : k = Int.toNat (a + (j : Int))
          · rw [if_pos q1, if_pos (by omega), q1, hfa j (by omega)]; rfl
          · rw [if_neg q1, j2 k]
            by_cases q2 : a ≤ (k : Int) ∧ (k : Int) < a + (j : Int)
            · rw [if_pos q2, if_pos (by omega)]
            · rw [if_neg q2, if_neg (by omega)]
      · have hge := of_decide_eq_false hge
        dsimp only at hge
        have e15 : v15 = m - a := e15.trans hlen
        have hj : a + (j : Int) = m := by omega
        rw [hj] at j2
        obtain ⟨d1, d2⟩ := due_take hS hm.symm hd' j2
        rw [← c4] at d1
        have hl : left file.length ⟨bS1, bM1, y, r2, f2⟩ < left file.length ⟨bS1, bM1, x, r2, f⟩ := by
          unfold left
          rw [c1, c5, c6]
          dsimp only
          omega
        have hys : y.sn ≤ x.sn := by
          rw [← spL_len y, ← spL_len x, c4, c2]
          split <;> simp
        exact ⟨(t + 1, ⟨bS1, bM1, y, r2, f2⟩), e16.trans (l_succ (by omega)), ⟨rfl, rfl, rfl⟩, ⟨rfl, rfl, rfl, rfl, rfl, rfl⟩, ⟨⟨rfl, rfl, rfl, Nat.le_refl _, Nat.le_refl _, Nat.le_refl _⟩, rfl, rfl, rfl, ⟨rfl, rfl, rfl, rfl, rfl, rfl⟩, rfl, rfl⟩, fun _ _ => ⟨0, Nat.one_pos, rfl, fun _ => rfl, fun _ _ => ⟨rfl, rfl, rfl⟩⟩, ⟨⟨rfl, rfl, rfl, Nat.le_refl _, Nat.le_refl _, Nat.le_refl _⟩, rfl, rfl, rfl, rfl, rfl, rfl, rfl, rfl, rfl, rfl, rfl, rfl, rfl, rfl, rfl, rfl⟩, ⟨⟨rfl, rfl, rfl, Nat.le_refl _, Nat.le_refl _, Nat.le_refl _⟩, fun _ _ => ⟨rfl, rfl⟩⟩, ⟨⟨rfl, rfl, rfl, Nat.le_refl _, Nat.le_refl _, Nat.le_refl _⟩, fun _ _ => rfl⟩, ⟨ry_step hI hok hyn hyf d1 (fun h => by rw [c6] at h; exact h) (by dsimp only; omega) bS1 bM1, rfl, by dsimp only; omega⟩, hl⟩
    · obtain rfl : s1 = putU (uEn9 x) := congrArg Prod.fst c4
      have hcr := crc_in9 x.file
      have hu := unB_putU (ok_en hNx) ⟨hcr.1, hcr.2⟩
      have hr0 : r2 = 0 := by
        rcases Nat.eq_zero_or_pos r2 with h | h
        · exact h
        · rw [hen h] at c3; cases c3
      have hl : left file.length ⟨bS1, bM1, y, r2, f⟩ + 1 = left file.length ⟨bS1, bM1, x, r2, f⟩ := by
        unfold left
        rw [c1, c3, c5, c6]
        simp
      refine ⟨⟨goodB_putU (ok_en hNx) ⟨hcr.1, hcr.2⟩, by rw [hu]; exact (by decide : (3 : Int) ≤ 3)⟩, fun u eu v8 e8 b5 => ?_⟩
      rw [hu] at eu
      subst eu e8
      refine ⟨⟨rfl, rfl⟩, fun q => absurd (of_decide_eq_true q) (by omega), fun _ => ⟨fun _ => ⟨rfl, rfl⟩, fun t5 f5 => ⟨fun q => absurd (f5.symm.trans q) (by simp [uEn9]), fun _ => ⟨⟨rfl, rfl⟩, fun q => absurd q (by simp [uEn9]), fun _ => ⟨fun q => absurd q (by simp [uEn9]), fun _ => ⟨fun _ => ?_, fun q => absurd q (by simp [uEn9])⟩⟩⟩⟩⟩⟩
      refine ⟨fun _ => ⟨rfl, rfl⟩, fun t6 f6 => ⟨fun _ => ⟨rfl, rfl⟩, fun v11 e11 t7 f7 => ⟨fun _ => ⟨rfl, rfl⟩, fun v12 e12 t8 f8 => ⟨fun q => ?_, fun _ v13 e13 => ?_⟩⟩⟩⟩
      · have : t8 = false := by rw [f8, f7, f6, e12, e11]; simp [uEn9, hr0, hIf]
        rw [this] at q; cases q
      · exact ⟨(t + 1, ⟨bS1, bM1, y, r2, f⟩), e13.trans (l_succ (by omega)), ⟨rfl, rfl, rfl⟩, ⟨rfl, rfl, rfl, rfl, rfl, rfl⟩, ⟨⟨rfl, rfl, rfl, Nat.le_refl _, Nat.le_refl _, Nat.le_refl _⟩, rfl, rfl, rfl, ⟨rfl, rfl, rfl, rfl, rfl, rfl⟩, rfl, rfl⟩, fun _ _ => ⟨0, Nat.one_pos, rfl, fun _ => rfl, fun _ _ => ⟨rfl, rfl, rfl⟩⟩, ⟨⟨rfl, rfl, rfl, Nat.le_refl _, Nat.le_refl _, Nat.le_refl _⟩, rfl, rfl, rfl, rfl, rfl, rfl, rfl, rfl, rfl, rfl, rfl, rfl, rfl, rfl, rfl, rfl⟩, ⟨⟨rfl, rfl, rfl, Nat.le_refl _, Nat.le_refl _, Nat.le_refl _⟩, fun _ _ => ⟨rfl, rfl⟩⟩, ⟨⟨rfl, rfl, rfl, Nat.le_refl _, Nat.le_refl _, Nat.le_refl _⟩, fun _ _ => rfl⟩, ⟨ry_step hI hok hyn hyf (by rw [c7, ← c2]; exact hdue) (fun h => by rw [c6] at h; cases h) (by have := spL_len y; rw [c7] at this; have : 0 = y.sn := this; dsimp only; omega) bS1 bM1, rfl, by dsimp only; omega⟩, by dsimp only; omega⟩
    · exact absurd ((congrArg Prod.snd h2).symm.trans q4) (by simp)
end Rc
