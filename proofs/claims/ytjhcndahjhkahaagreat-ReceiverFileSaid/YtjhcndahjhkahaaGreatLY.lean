/-
  OWN WORK. Receiver: the law ReceiverFile: the walk.
-/
import Derived.Test.YtjhcndahjhkahaaGreatLA
namespace Rc
open Go Go.Proofs Eng
set_option linter.unusedVariables false
set_option linter.unusedSimpArgs false
set_option maxRecDepth 100000
set_option maxHeartbeats 4000000
/-- Take of a unit of the file, with or without a transaction. -/
noncomputable def takeC (args : List SV) (H : Hp) (nx : Nat) (K : SV → Hp → Nat → Prop) : Prop := match H.find 501 with
  | none => tk1C args H nx K
  | some _ => tk2C args H nx K
theorem take_ok : EcOk Tryz.prog 10 takeC := by
  intro args H nx K hc hw
  unfold takeC at hc
  split at hc
  · exact take1_ok args H nx K hc hw
  · exact take2_ok args H nx K hc hw
noncomputable def EFW0 : Env := ((((((((E0.addQ 24 eqPt).addQ 76 eqPt).addQ 43 (eqStruct [.int .i64, .int .i64, .str, .str])).addQ 4 eqBool).addP 6 shown).addP 8 ofC).addE 9 getR).addE 11 gpC).addE 10 takeC
theorem EFW0_ok : EnvOk Tryz.prog EFW0 := ((((((((E0_ok.addQ (eqPt_ok (by kernel_rfl))).addQ (eqPt_ok (by kernel_rfl))).addQ (eqStruct_ok (by kernel_rfl) (by kernel_rfl) (by kernel_rfl) (by kernel_rfl))).addQ (eqBool_ok (by kernel_rfl))).addP shown_ok).addP of_ok).addE getR_ok).addE gaps_ok).addE take_ok
noncomputable def EFW1 : Env := EFW0.inl 7 Tryz.f7 fun _ _ => [.raw 0, .raw 1, .raw 2, .raw 3, .det 0, .det 1, .det 2, .det 3, .sure 0, .sure 1, .sure 2, .sure 3]
theorem EFW1_ok : EnvOk Tryz.prog EFW1 := EFW0_ok.inl _ Tryz.func7 rfl (by kernel_rfl)
theorem ifor {a b : Bool} (h : (if a = true then true else b) = false) : a = false ∧ b = false := by
  cases a
  · exact ⟨rfl, h⟩
  · cases h
theorem rowB_eq {g b o wd n cap t : Nat} {own one z : Bool} {f : Nat → Bool} {fam : Option (Nat → Nat × Nat)} : rowB ⟨g, b, o, wd, n, fun k => .bool (f k), own, one, cap, t, z, fam⟩ = f := rfl
theorem getD_mem {l : List (Int × Int)} {j : Nat} (h : j < l.length) : l.getD j (0, 0) ∈ l := by
  have e : l.getD j (0, 0) = l[j] := by simp [List.getD, h]
  rw [e]
  exact List.getElem_mem h
theorem gapsE_eq {g b o wd n cap t : Nat} {own one z : Bool} {l : List (Int × Int)} {fam : Option (Nat → Nat × Nat)} : gapsE ⟨g, b, o, wd, n, gapE l, own, one, cap, t, z, fam⟩ l.length = l := by
  unfold gapsE
  apply List.ext_getElem?
  intro i
  by_cases hi : i < l.length
  · rw [List.getElem?_map, List.getElem?_range hi, Option.map_some, List.getElem?_eq_getElem hi]
    have e : l.getD i (0, 0) = l[i] := by simp [List.getD, hi]
    show some (intOf (fldV (gapE l i) 0), intOf (fldV (gapE l i) 1)) = _
    show some ((l.getD i (0, 0)).1, (l.getD i (0, 0)).2) = _
    rw [e]
  · rw [List.getElem?_eq_none (by simpa using hi), List.getElem?_eq_none (by omega)]
theorem gapSum_snoc (l : List (Int × Int)) (j : Nat) (h : j < l.length) : gapSum (l.take (j + 1)) = gapSum (l.take j) + ((l.getD j (0, 0)).2 - (l.getD j (0, 0)).1) := by
  have e : l.getD j (0, 0) = l[j] := by simp [List.getD, h]
  rw [List.take_succ_eq_append_getElem h, gapSum_app, e]
  simp [gapSum]
theorem gapSum_le : ∀ (l : List (Int × Int)), (∀ g ∈ l, 0 ≤ g.1 ∧ g.1 < g.2 ∧ g.2 ≤ 3000) → 0 ≤ gapSum l ∧ gapSum l ≤ 3000 * (l.length : Int)
  | [], _ => ⟨Int.le_refl _, Int.le_refl _⟩
  | g :: r, h => by
    obtain ⟨h1, h2⟩ := gapSum_le r fun x hx => h x (List.mem_cons_of_mem _ hx)
    have h3 := h g (List.mem_cons_self ..)
    simp only [gapSum, List.length_cons]
    omega
theorem unc_le (f : Nat → Bool) : ∀ k, unc f k ≤ k
  | 0 => Nat.le_refl _
  | k + 1 => by
    have := unc_le f k
    show unc f k + (if f k then 0 else 1) ≤ k + 1
    split <;> omega
theorem mark_step {hf0 f : Nat → Bool} {off : Int} {k0 : Nat} (h0 : 0 ≤ off) (h : ∀ k : Nat, f k = (hf0 k || (decide (off ≤ k) && decide ((k : Int) < off + k0)))) (k : Nat) : (if k = (off + k0).toNat then true else f k) = (hf0 k || (decide (off ≤ k) && decide ((k : Int) < off + ((k0 + 1 : Nat) : Int)))) := by
  rw [h]
  by_cases q : k = (off + k0).toNat
  · rw [if_pos q, decide_eq_true (show off ≤ (k : Int) by omega), decide_eq_true (show (k : Int) < off + ((k0 + 1 : Nat) : Int) by omega), Bool.and_true, Bool.or_true]
  · rw [if_neg q]
    by_cases r : off ≤ (k : Int)
    · rw [decide_eq_true r, decide_eq_decide.2 (show (k : Int) < off + k0 ↔ (k : Int) < off + ((k0 + 1 : Nat) : Int) by omega)]
    · rw [decide_eq_false r, Bool.false_and, Bool.false_and]
theorem FU.rng {name file : List UInt8} {u : U} (h : FU name file u) : 0 ≤ u.offset ∧ u.offset + u.data.length ≤ file.length ∧ u.kind ≤ 3 := by
  rcases h with rfl | rfl | ⟨a, b, p1, p2, p3, rfl⟩
  · exact ⟨Int.le_refl _, by show (0 : Int) + ((0 : Nat) : Int) ≤ _; omega, by show (1 : Int) ≤ 3; decide⟩
  · exact ⟨Int.le_refl _, by show (0 : Int) + ((0 : Nat) : Int) ≤ _; omega, by show (3 : Int) ≤ 3; decide⟩
  · refine ⟨by show (0 : Int) ≤ (a : Int); omega, ?_, by show (2 : Int) ≤ 3; decide⟩
    show (a : Int) + (((file.take b).drop a).length : Nat) ≤ _
    rw [List.length_drop, List.length_take]
    omega
theorem whole_eq {t7 t5 t6 : Bool} (h : t7 = if t5 = true then t6 else false) (f : Nat → Bool) (n : Nat) : (t7 && allTo f n) = wholeB f t5 t6 n := by
  rw [h]
  cases t5 <;> rfl
theorem nl10 {w dn : Bool} : (((if w = true ∧ dn = false then 1 else 0 : Nat) : Int) == 1) = (w && !dn) := by cases w <;> cases dn <;> rfl
theorem ifw {w fb t8 : Bool} {i : Decidable (w = true)} (h : t8 = @ite Bool (w = true) i fb false) : t8 = (w && fb) := by
  rw [h]
  cases w
  · rw [if_neg (fun q => by cases q)]; rfl
  · rw [if_pos rfl]; rfl
theorem ifmx {x v : Int} {i : Decidable (x > 0)} (h : v = @ite Int (x > 0) i x 0) (h0 : 0 ≤ x) : v = x := by
  rw [h]
  by_cases q : x > 0
  · rw [if_pos q]
  · rw [if_neg q]; omega
theorem ifb {a b : Bool} : (if a = true then true else b) = (a || b) := by cases a <;> rfl
theorem ifc {a b : Bool} : (if a = true then b else false) = (a && b) := by cases a <;> rfl
abbrev fileW (x : List UInt8 × List UInt8 × RowD (Int × Int × Int × Unit) × Unit) : List An := [.raw 1, .det 2, .raw 5, .det 7, .two 11 (stage1 x.2.2.1.n) (stage2 x.1 x.2.1 x.2.2.1.n), .loopD 18 loop18, .loopD 23 loop23, .loopD 35 loop35, .loopD 38 loop38, .loopD 45 loop45]
theorem file_walk : ∀ (x : List UInt8 × List UInt8 × RowD (Int × Int × Int × Unit) × Unit) (hR : FileIn x) (hw : ∀ v ∈ aFile.svs 0 x, v.wf), exCode EFW1 Tryz.f3.ntmps (fileW x) (match Tryz.f3.body with | some c => c | none => .skip) (argFr 0 (aFile.svs 0 x)) (aFile.hp 0 x) aFile.tags (atEnd EFW1 Tryz.f3.results.toList fun r _ _ => eqv r (.bool true)) := by
  refine fun ⟨name, file, ⟨pb, po, pn, pc, pz, pf⟩, ()⟩ hR hw => ?_
  refine vc_of (q :=
      ∀ (v1:Int), v1=(↑(List.length file):Int)→∀ (v2:Int), v2=(↑pn:Int)→∀ (t1:Bool), (t1=if decide (v1 > (3000:Int))=true then true else decide (v2 > (200:Int)))→∀ (t2:Bool), (t2=if t1=true then true else name==[])→∀ (v3:Int), v3=(↑(List.length name):Int)→∀ (t3:Bool), (t3=if t2=true then true else decide (v3 > (32:Int)))→(t3=true→true=true)∧(t3=false→∀ (b1:Nat) (v4:Int), v4=(↑(List.length
      file):Int)→0≤v4∧v4≤v4∧v4*(↑(1:Nat):Int)≤(140737488355328:Int)∧v4≤9223372036854775807∧∀ (b2:Nat), (∃ (x1:Nat), 0=(↑x1:Int)∧false=false∧false=false∧false=false∧(0=0∧b1=b1∧0=0)∧(b2=b2∧0=0∧0=0∧Int.toNat v4=Int.toNat v4∧Int.toNat v4=Int.toNat
      v4∧false=false)∧((b1=b1∧0=0∧false=false∧1≤1∧1≤1∧1≤1)∧(10:Int)=10∧(3:Int)=3∧false=false∧(0=0∧0=0∧0=0∧0=0∧0=0∧true=true)∧0=0∧0=0∧0=0∧0=0∧0=0∧true=true)∧((b2=b2∧0=0∧false=false∧Int.toNat v4≤Int.toNat v4∧Int.toNat v4≤Int.toNat v4∧Int.toNat v4≤Int.toNat v4)∧∀ (i1:Nat), i1 < Int.toNat v4→false=false)∧Nat.le x1 pn)∧(∀ (b3:Nat), b3≤pn→∀ (v5:Int), v5=(↑pn:Int)→(decide ((↑b3:Int) <
      v5)=true→0≤(↑b3:Int)∧(↑b3:Int) < (↑pn:Int)∧(pb=pb∧po=po)∧Int.toNat (↑b3:Int) < pn∧(1≤List.length name∧List.length name≤32)∧List.length file≤3000∧∀ (s1:List UInt8), s1=ofL (partU ((pf (Int.toNat (↑b3:Int))).1) (((pf (Int.toNat (↑b3:Int))).2).1) ((((pf (Int.toNat (↑b3:Int))).2).2).1) name file)→∀ (t4:Bool), t4=ofB (partU ((pf (Int.toNat (↑b3:Int))).1) (((pf (Int.toNat (↑b3:Int))).2).1) ((((pf
      (Int.toNat (↑b3:Int))).2).2).1) name file)→((!t4)=true→∀ (v6:Int), v6=IntKind.i64.wrap ((↑b3:Int)+(1:Int))→(∃ (x2:Nat), v6=(↑x2:Int)∧false=false∧false=false∧false=false∧(0=0∧b1=b1∧0=0)∧(b2=b2∧0=0∧0=0∧Int.toNat v4=Int.toNat v4∧Int.toNat v4=Int.toNat
      v4∧false=false)∧((b1=b1∧0=0∧false=false∧1≤1∧1≤1∧1≤1)∧(10:Int)=10∧(3:Int)=3∧false=false∧(0=0∧0=0∧0=0∧0=0∧0=0∧true=true)∧0=0∧0=0∧0=0∧0=0∧0=0∧true=true)∧((b2=b2∧0=0∧false=false∧Int.toNat v4≤Int.toNat v4∧Int.toNat v4≤Int.toNat v4∧Int.toNat v4≤Int.toNat v4)∧∀ (i2:Nat), i2 < Int.toNat v4→false=false)∧x2≤pn∧pn - x2 < pn - b3)∨∃ (x3:FS),
      v6=(↑x3.i:Int)∧false=x3.me∧false=x3.en∧false=x3.dn∧(0=0∧b1=b1∧0=0)∧(b2=b2∧0=0∧0=0∧Int.toNat v4=Int.toNat v4∧Int.toNat v4=Int.toNat v4∧false=false)∧((b2=b2∧0=0∧false=false∧Int.toNat v4≤Int.toNat v4∧Int.toNat v4≤Int.toNat v4∧Int.toNat v4≤Int.toNat v4)∧∀ (i3:Nat), i3 < Int.toNat v4→false=x3.hf i3)∧((b1=b1∧0=0∧false=false∧1≤1∧1≤1∧1≤1)∧(10:Int)=10∧(3:Int)=3∧false=false∧SVeq (SV.slice 999999 0 0 [] 0 0 0
      0 true) (SV.slice 501 x3.ts.bO x3.ts.oO [] 1 0 1 x3.ts.cO false)∧0=0∧0=0∧0=0∧0=0∧0=0∧true=true)∧(false=true∧1=0∧x3.ts.cO=0)∧(false=true∧1=0∧1=0)∧(decide (x3.ts.tx.2.2.1=0)=true∧x3.ts.tx.2.2.1=0∧x3.ts.tx.2.2.2.1=0)∧(∀ (i4:Nat), i4 < 1→False)∧x3.i≤pn∧FOk name file x3.hf x3.me x3.en x3.dn x3.ts)∧((!t4)=false→∀ (x'1:List UInt8 × Unit), x'1=(s1, ())→goodB (Prod.fst x'1)∧(unB (Prod.fst
      x'1)).kind≤(3:Int)∧∀ (y1:Unit), True→∀ (v7:Int), v7=0→∀ (b4:Nat), (b4=b4∧0=0)∧(false=false→b4=b4∧0=0)∧∀ (t5:Bool), (t5=if false=true then true else (unB (Prod.fst x'1)).kind==(1:Int))→(false=false→b4=b4∧0=0)∧∀ (t6:Bool), (t6=if false=true then true else (unB (Prod.fst x'1)).kind==(3:Int))→(∃ (x2:Nat × (Nat→Bool)), 0=(↑x2.1:Int)∧(b2=b2∧0=0∧0=0∧Int.toNat v4=Int.toNat v4∧Int.toNat v4=Int.toNat
      v4∧false=false)∧((b2=b2∧0=0∧false=false∧Int.toNat v4≤Int.toNat v4∧Int.toNat v4≤Int.toNat v4∧Int.toNat v4≤Int.toNat v4)∧∀ (i2:Nat), i2 < Int.toNat v4→false=x2.2 i2)∧x2.1≤List.length (strS (fldV (SV.agg [SV.int IntKind.i64 ((unB (Prod.fst x'1)).kind), SV.int IntKind.i64 ((unB (Prod.fst x'1)).number), SV.str ((unB (Prod.fst x'1)).name), SV.int IntKind.i64 ((unB (Prod.fst x'1)).size), SV.int
      IntKind.u32 ((unB (Prod.fst x'1)).sum), SV.int IntKind.i64 ((unB (Prod.fst x'1)).offset), SV.str ((unB (Prod.fst x'1)).data), SV.int IntKind.i64 ((unB (Prod.fst x'1)).why), SV.int IntKind.i64 ((unB (Prod.fst x'1)).of), SV.bool ((unB (Prod.fst x'1)).me), SV.slice 999999 0 0 [] 0 0 0 0 true]) 6))∧∀ (k1:Nat), x2.2 k1=(rowB (Ent.mk 2 b2 0 1 (Int.toNat v4) (fun (k:Nat) ↦ SV.bool false) true false
      (Int.toNat v4) (4:Go.TypeId) false Option.none) k1||decide ((unB (Prod.fst x'1)).offset≤(↑k1:Int))&&decide ((↑k1:Int) < (unB (Prod.fst x'1)).offset+(↑x2.1:Int))))∧∀ (x3:Nat × (Nat→Bool)), (x3.1≤List.length (strS (fldV (SV.agg [SV.int IntKind.i64 ((unB (Prod.fst x'1)).kind), SV.int IntKind.i64 ((unB (Prod.fst x'1)).number), SV.str ((unB (Prod.fst x'1)).name), SV.int IntKind.i64 ((unB (Prod.fst
      x'1)).size), SV.int IntKind.u32 ((unB (Prod.fst x'1)).sum), SV.int IntKind.i64 ((unB (Prod.fst x'1)).offset), SV.str ((unB (Prod.fst x'1)).data), SV.int IntKind.i64 ((unB (Prod.fst x'1)).why), SV.int IntKind.i64 ((unB (Prod.fst x'1)).of), SV.bool ((unB (Prod.fst x'1)).me), SV.slice 999999 0 0 [] 0 0 0 0 true]) 6))∧∀ (k:Nat), x3.2 k=(rowB (Ent.mk 2 b2 0 1 (Int.toNat v4) (fun (k:Nat) ↦ SV.bool false)
      true false (Int.toNat v4) (4:Go.TypeId) false Option.none) k||decide ((unB (Prod.fst x'1)).offset≤(↑k:Int))&&decide ((↑k:Int) < (unB (Prod.fst x'1)).offset+(↑x3.1:Int))))→(b4=b4∧0=0)∧∀ (v8:Int), v8=(↑(List.length ((unB (Prod.fst x'1)).data)):Int)→(decide ((↑x3.1:Int) < v8)=true→(b4=b4∧0=0)∧∀ (v9:Int), v9=IntKind.i64.wrap ((unB (Prod.fst x'1)).offset+(↑x3.1:Int))→0≤v9∧v9 < (↑(Int.toNat
      v4):Int)∧(b2=b2∧0=0)∧Int.toNat v9 < Int.toNat v4∧∀ (v10:Int), v10=IntKind.i64.wrap ((↑x3.1:Int)+(1:Int))→∃ (x4:Nat × (Nat→Bool)), v10=(↑x4.1:Int)∧(b2=b2∧0=0∧0=0∧Int.toNat v4=Int.toNat v4∧Int.toNat v4=Int.toNat v4∧false=false)∧((b2=b2∧0=0∧false=false∧Int.toNat v4≤Int.toNat v4∧Int.toNat v4≤Int.toNat v4∧Int.toNat v4≤Int.toNat v4)∧∀ (i3:Nat), i3 < Int.toNat v4→(if i3=Int.toNat v9 then true else x3.2
      i3)=x4.2 i3)∧(x4.1≤List.length (strS (fldV (SV.agg [SV.int IntKind.i64 ((unB (Prod.fst x'1)).kind), SV.int IntKind.i64 ((unB (Prod.fst x'1)).number), SV.str ((unB (Prod.fst x'1)).name), SV.int IntKind.i64 ((unB (Prod.fst x'1)).size), SV.int IntKind.u32 ((unB (Prod.fst x'1)).sum), SV.int IntKind.i64 ((unB (Prod.fst x'1)).offset), SV.str ((unB (Prod.fst x'1)).data), SV.int IntKind.i64 ((unB (Prod.fst
      x'1)).why), SV.int IntKind.i64 ((unB (Prod.fst x'1)).of), SV.bool ((unB (Prod.fst x'1)).me), SV.slice 999999 0 0 [] 0 0 0 0 true]) 6))∧∀ (k2:Nat), x4.2 k2=(rowB (Ent.mk 2 b2 0 1 (Int.toNat v4) (fun (k:Nat) ↦ SV.bool false) true false (Int.toNat v4) (4:Go.TypeId) false Option.none) k2||decide ((unB (Prod.fst x'1)).offset≤(↑k2:Int))&&decide ((↑k2:Int) < (unB (Prod.fst
      x'1)).offset+(↑x4.1:Int))))∧List.length (strS (fldV (SV.agg [SV.int IntKind.i64 ((unB (Prod.fst x'1)).kind), SV.int IntKind.i64 ((unB (Prod.fst x'1)).number), SV.str ((unB (Prod.fst x'1)).name), SV.int IntKind.i64 ((unB (Prod.fst x'1)).size), SV.int IntKind.u32 ((unB (Prod.fst x'1)).sum), SV.int IntKind.i64 ((unB (Prod.fst x'1)).offset), SV.str ((unB (Prod.fst x'1)).data), SV.int IntKind.i64 ((unB
      (Prod.fst x'1)).why), SV.int IntKind.i64 ((unB (Prod.fst x'1)).of), SV.bool ((unB (Prod.fst x'1)).me), SV.slice 999999 0 0 [] 0 0 0 0 true]) 6)) - x4.1 < List.length (strS (fldV (SV.agg [SV.int IntKind.i64 ((unB (Prod.fst x'1)).kind), SV.int IntKind.i64 ((unB (Prod.fst x'1)).number), SV.str ((unB (Prod.fst x'1)).name), SV.int IntKind.i64 ((unB (Prod.fst x'1)).size), SV.int IntKind.u32 ((unB
      (Prod.fst x'1)).sum), SV.int IntKind.i64 ((unB (Prod.fst x'1)).offset), SV.str ((unB (Prod.fst x'1)).data), SV.int IntKind.i64 ((unB (Prod.fst x'1)).why), SV.int IntKind.i64 ((unB (Prod.fst x'1)).of), SV.bool ((unB (Prod.fst x'1)).me), SV.slice 999999 0 0 [] 0 0 0 0 true]) 6)) - x3.1)∧(decide ((↑x3.1:Int) < v8)=false→∀ (t7:Bool), (t7=if t5=true then t6 else false)→(∃ (x4:Nat), 0=(↑x4:Int)∧t7=(boolS
      (SV.bool t7)&&allTo (rowB (Ent.mk 2 b2 0 1 (Int.toNat v4) (fun (k:Nat) ↦ SV.bool (x3.2 k)) true false (Int.toNat v4) (4:Go.TypeId) false Option.none)) x4)∧Nat.le x4 (Int.toNat v4))∧∀ (b5:Nat), b5≤Int.toNat v4→∀ (v10:Int), v10=(↑(Int.toNat v4):Int)→(decide ((↑b5:Int) < v10)=true→((boolS (SV.bool t7)&&allTo (rowB (Ent.mk 2 b2 0 1 (Int.toNat v4) (fun (k:Nat) ↦ SV.bool (x3.2 k)) true false (Int.toNat
      v4) (4:Go.TypeId) false Option.none)) b5)=true→0≤(↑b5:Int))∧((boolS (SV.bool t7)&&allTo (rowB (Ent.mk 2 b2 0 1 (Int.toNat v4) (fun (k:Nat) ↦ SV.bool (x3.2 k)) true false (Int.toNat v4) (4:Go.TypeId) false Option.none)) b5)=true→(↑b5:Int) < (↑(Int.toNat v4):Int))∧((boolS (SV.bool t7)&&allTo (rowB (Ent.mk 2 b2 0 1 (Int.toNat v4) (fun (k:Nat) ↦ SV.bool (x3.2 k)) true false (Int.toNat v4) (4:Go.TypeId)
      false Option.none)) b5)=true→b2=b2∧0=0)∧((boolS (SV.bool t7)&&allTo (rowB (Ent.mk 2 b2 0 1 (Int.toNat v4) (fun (k:Nat) ↦ SV.bool (x3.2 k)) true false (Int.toNat v4) (4:Go.TypeId) false Option.none)) b5)=true→Int.toNat (↑b5:Int) < Int.toNat v4)∧∀ (t8:Bool), (t8=if (boolS (SV.bool t7)&&allTo (rowB (Ent.mk 2 b2 0 1 (Int.toNat v4) (fun (k:Nat) ↦ SV.bool (x3.2 k)) true false (Int.toNat v4) (4:Go.TypeId)
      false Option.none)) b5)=true then x3.2 (Int.toNat (↑b5:Int)) else false)→∀ (v11:Int), v11=IntKind.i64.wrap ((↑b5:Int)+(1:Int))→∃ (x5:Nat), v11=(↑x5:Int)∧t8=(boolS (SV.bool t7)&&allTo (rowB (Ent.mk 2 b2 0 1 (Int.toNat v4) (fun (k:Nat) ↦ SV.bool (x3.2 k)) true false (Int.toNat v4) (4:Go.TypeId) false Option.none)) x5)∧x5≤Int.toNat v4∧Int.toNat v4 - x5 < Int.toNat v4 - b5)∧(decide ((↑b5:Int) <
      v10)=false→∃ (x5:TY), (0=0∧b1=x5.bR∧0=0)∧s1=putU x5.u∧((b1=x5.bR∧0=0∧false=false∧1≤1∧1≤1∧1≤1)∧(10:Int)=10∧(3:Int)=3∧false=false∧(0=0∧0=0∧0=0∧0=0∧0=0∧true=true)∧0=0∧0=0∧0=0∧0=0∧0=0∧true=true)∧(FU x5.name x5.file x5.u∧fitN x5.name x5.file)∧∀ (y2:J27), tk1P x5 y2→∀ (v11:Int), v11=0→∀ (v12:Int), v12=(↑y2.nl:Int)→∀ (t9:Bool), (t9=if (v11 != (0:Int))=true then true else decide (v12 > (1:Int)))→∀
      (v13:Int), v13=(↑y2.nl:Int)→∀ (t10:Bool), (t10=if (boolS (SV.bool t7)&&allTo (rowB (Ent.mk 2 b2 0 1 (Int.toNat v4) (fun (k:Nat) ↦ SV.bool (x3.2 k)) true false (Int.toNat v4) (4:Go.TypeId) false Option.none)) b5)=true then !false else false)→∀ (t11:Bool), (t11=if t9=true then true else !(v13==(1:Int))==t10)→(t11=true→false=true)∧(t11=false→∀ (v14:Int),
      v14=(↑y2.nl:Int)→((v14==(1:Int))=true→(0:Int)≤0)∧((v14==(1:Int))=true→0 < (↑y2.nl:Int))∧((v14==(1:Int))=true→y2.bl=y2.bl∧y2.ol=y2.ol)∧((v14==(1:Int))=true→0 < y2.nl)∧∀ (t12:Bool), (t12=if (v14==(1:Int))=true then !((3:Int)==(3:Int)&&((0:Int)==(0:Int)&&(y2.enm==name&&(y2.efl==file&&true)))) else false)→(t12=true→false=true)∧(t12=false→∀ (t13:Bool), (t13=if false=true then true else boolS (SV.bool
      t7)&&allTo (rowB (Ent.mk 2 b2 0 1 (Int.toNat v4) (fun (k:Nat) ↦ SV.bool (x3.2 k)) true false (Int.toNat v4) (4:Go.TypeId) false Option.none)) b5)→∃ (x6:GX),
      (0=0∧b1=x6.bR∧0=0)∧(3:Int)=3∧((x5.bR=x6.bR∧0=0∧false=false∧1≤1∧1≤1∧1≤1)∧(10:Int)=10∧(3:Int)=3∧false=false∧(y2.ts.bO=x6.ts.bO∧y2.ts.oO=x6.ts.oO∧0=0∧1=1∧y2.ts.cO=x6.ts.cO∧false=false)∧0=0∧0=0∧0=0∧0=0∧0=0∧true=true)∧((y2.ts.bO=x6.ts.bO∧y2.ts.oO=x6.ts.oO∧false=false∧1≤1∧1≤x6.ts.cO∧x6.ts.cO≤y2.ts.cO)∧∀ (i3:Nat), i3 <
      1→0=0∧y2.ts.bT=x6.ts.bT∧0=0)∧((y2.ts.bT=x6.ts.bT∧0=0∧false=false∧1≤1∧1≤1∧1≤1)∧(3:Int)=3∧y2.ts.ph=x6.ts.ph∧y2.ts.tme=x6.ts.tme∧y2.ts.ten=x6.ts.ten∧y2.ts.nm=x6.ts.nm∧y2.ts.sz=x6.ts.sz∧y2.ts.la=x6.ts.la∧y2.ts.sm=x6.ts.sm∧(y2.ts.tx.1=x6.ts.tx.1∧y2.ts.tx.2.1=x6.ts.tx.2.1∧0=0∧y2.ts.tx.2.2.1=x6.ts.tx.2.2.1∧y2.ts.tx.2.2.2.1=x6.ts.tx.2.2.2.1∧decide (y2.ts.tx.2.2.1=0)=decide
      (x6.ts.tx.2.2.1=0))∧y2.ts.bm=x6.ts.bm∧y2.ts.tr=x6.ts.tr∧(0:Int)=0∧y2.ts.wy=x6.ts.wy∧y2.ts.cl=x6.ts.cl∧y2.ts.du=x6.ts.du)∧((y2.ts.tx.1=x6.ts.tx.1∧y2.ts.tx.2.1=x6.ts.tx.2.1∧decide (y2.ts.tx.2.2.1=0)=decide (x6.ts.tx.2.2.1=0)∧x6.ts.tx.2.2.1≤y2.ts.tx.2.2.1∧x6.ts.tx.2.2.1≤x6.ts.tx.2.2.2.1∧x6.ts.tx.2.2.2.1≤y2.ts.tx.2.2.2.1)∧∀ (i4:Nat), i4 < x6.ts.tx.2.2.1→y2.ts.tx.2.2.2.2 i4=x6.ts.tx.2.2.2.2 i4)∧(∀
      (i5:Nat), i5 < 1→∃ (x7:Nat), x7 < 1∧(y2.ts.bm, 0)=(x6.ts.bm, 0)∧(∀ (v15:Int), y2.ts.h v15=x6.ts.h v15)∧∀ (v16:Int), y2.ts.h v16=true→y2.ts.ge v16=x6.ts.ge v16)∧(FOk x6.name x6.file x6.hf x6.me x6.en x6.dn x6.ts∧List.length x6.file≤3000)∧∀ (y3:List (Int × Int) × Nat × Nat × Nat), gpP x6 y3→(∃ (x7:Nat), 0=(↑x7:Int)∧(0:Int)=gapSum (List.take x7 (gapsE (Ent.mk 520 y3.2.1 y3.2.2.1 2 (List.length y3.1)
      (gapE y3.1) true false y3.2.2.2 (46:Go.TypeId) (decide (List.length y3.1=0)) Option.none) (slN (SV.slice 520 y3.2.1 y3.2.2.1 [] 2 0 (List.length y3.1) y3.2.2.2 (decide (List.length y3.1=0))))))∧Nat.le x7 (slN (SV.slice 520 y3.2.1 y3.2.2.1 [] 2 0 (List.length y3.1) y3.2.2.2 (decide (List.length y3.1=0)))))∧∀ (b6:Nat), b6≤slN (SV.slice 520 y3.2.1 y3.2.2.1 [] 2 0 (List.length y3.1) y3.2.2.2 (decide
      (List.length y3.1=0)))→∀ (v15:Int), v15=(↑(List.length y3.1):Int)→(decide ((↑b6:Int) < v15)=true→0≤(↑b6:Int)∧(↑b6:Int) < (↑(List.length y3.1):Int)∧(y3.2.1=y3.2.1∧y3.2.2.1=y3.2.2.1)∧Int.toNat (↑b6:Int) < List.length y3.1∧∀ (v16:Int), (v16=if (List.getD y3.1 (Int.toNat (↑b6:Int)) ((0:Int), (0:Int))).1 > (0:Int) then (List.getD y3.1 (Int.toNat (↑b6:Int)) ((0:Int), (0:Int))).1 else (0:Int))→(∃
      (x8:Nat), v16=v16+(↑x8:Int)∧gapSum (List.take b6 (gapsE (Ent.mk 520 y3.2.1 y3.2.2.1 2 (List.length y3.1) (gapE y3.1) true false y3.2.2.2 (46:Go.TypeId) (decide (List.length y3.1=0)) Option.none) (slN (SV.slice 520 y3.2.1 y3.2.2.1 [] 2 0 (List.length y3.1) y3.2.2.2 (decide (List.length y3.1=0))))))=gapSum (List.take b6 (gapsE (Ent.mk 520 y3.2.1 y3.2.2.1 2 (List.length y3.1) (gapE y3.1) true false
      y3.2.2.2 (46:Go.TypeId) (decide (List.length y3.1=0)) Option.none) (slN (SV.slice 520 y3.2.1 y3.2.2.1 [] 2 0 (List.length y3.1) y3.2.2.2 (decide (List.length y3.1=0))))))+(↑x8:Int)∧Int.NonNeg ((List.getD y3.1 (Int.toNat (↑b6:Int)) ((0:Int), (0:Int))).2 - (v16+(↑x8:Int))))∧∀ (b7:Nat), v16+(↑b7:Int)≤(List.getD y3.1 (Int.toNat (↑b6:Int)) ((0:Int), (0:Int))).2→0≤(↑b6:Int)∧(↑b6:Int) < (↑(List.length
      y3.1):Int)∧(y3.2.1=y3.2.1∧y3.2.2.1=y3.2.2.1)∧Int.toNat (↑b6:Int) < List.length y3.1∧(decide (v16+(↑b7:Int) < (List.getD y3.1 (Int.toNat (↑b6:Int)) ((0:Int), (0:Int))).2)=true→∀ (v17:Int), v17=(↑(Int.toNat v4):Int)→(decide (v16+(↑b7:Int)≥v17)=false→(0:Int)≤v16+(↑b7:Int))∧(decide (v16+(↑b7:Int)≥v17)=false→v16+(↑b7:Int) < (↑(Int.toNat v4):Int))∧(decide (v16+(↑b7:Int)≥v17)=false→b2=b2∧0=0)∧(decide
      (v16+(↑b7:Int)≥v17)=false→Int.toNat (v16+(↑b7:Int)) < Int.toNat v4)∧∀ (t14:Bool), (t14=if decide (v16+(↑b7:Int)≥v17)=true then true else x3.2 (Int.toNat (v16+(↑b7:Int))))→(t14=true→false=true)∧(t14=false→∀ (v18:Int), v18=IntKind.i64.wrap (gapSum (List.take b6 (gapsE (Ent.mk 520 y3.2.1 y3.2.2.1 2 (List.length y3.1) (gapE y3.1) true false y3.2.2.2 (46:Go.TypeId) (decide (List.length y3.1=0))
      Option.none) (slN (SV.slice 520 y3.2.1 y3.2.2.1 [] 2 0 (List.length y3.1) y3.2.2.2 (decide (List.length y3.1=0))))))+(↑b7:Int)+(1:Int))→∀ (v19:Int), v19=IntKind.i64.wrap (v16+(↑b7:Int)+(1:Int))→∃ (x9:Nat), v19=v16+(↑x9:Int)∧v18=gapSum (List.take b6 (gapsE (Ent.mk 520 y3.2.1 y3.2.2.1 2 (List.length y3.1) (gapE y3.1) true false y3.2.2.2 (46:Go.TypeId) (decide (List.length y3.1=0)) Option.none) (slN
      (SV.slice 520 y3.2.1 y3.2.2.1 [] 2 0 (List.length y3.1) y3.2.2.2 (decide (List.length y3.1=0))))))+(↑x9:Int)∧v16+(↑x9:Int)≤(List.getD y3.1 (Int.toNat (↑b6:Int)) ((0:Int), (0:Int))).2∧Int.toNat ((List.getD y3.1 (Int.toNat (↑b6:Int)) ((0:Int), (0:Int))).2 - v16) - x9 < Int.toNat ((List.getD y3.1 (Int.toNat (↑b6:Int)) ((0:Int), (0:Int))).2 - v16) - b7))∧(decide (v16+(↑b7:Int) < (List.getD y3.1
      (Int.toNat (↑b6:Int)) ((0:Int), (0:Int))).2)=false→∀ (v18:Int), v18=IntKind.i64.wrap ((↑b6:Int)+(1:Int))→∃ (x9:Nat), v18=(↑x9:Int)∧gapSum (List.take b6 (gapsE (Ent.mk 520 y3.2.1 y3.2.2.1 2 (List.length y3.1) (gapE y3.1) true false y3.2.2.2 (46:Go.TypeId) (decide (List.length y3.1=0)) Option.none) (slN (SV.slice 520 y3.2.1 y3.2.2.1 [] 2 0 (List.length y3.1) y3.2.2.2 (decide (List.length
      y3.1=0))))))+(↑b7:Int)=gapSum (List.take x9 (gapsE (Ent.mk 520 y3.2.1 y3.2.2.1 2 (List.length y3.1) (gapE y3.1) true false y3.2.2.2 (46:Go.TypeId) (decide (List.length y3.1=0)) Option.none) (slN (SV.slice 520 y3.2.1 y3.2.2.1 [] 2 0 (List.length y3.1) y3.2.2.2 (decide (List.length y3.1=0))))))∧x9≤slN (SV.slice 520 y3.2.1 y3.2.2.1 [] 2 0 (List.length y3.1) y3.2.2.2 (decide (List.length y3.1=0)))∧slN
      (SV.slice 520 y3.2.1 y3.2.2.1 [] 2 0 (List.length y3.1) y3.2.2.2 (decide (List.length y3.1=0))) - x9 < slN (SV.slice 520 y3.2.1 y3.2.2.1 [] 2 0 (List.length y3.1) y3.2.2.2 (decide (List.length y3.1=0))) - b6))∧(decide ((↑b6:Int) < v15)=false→∀ (t14:Bool), (t14=if t6=true then !t13 else false)→(t14=true→(∃ (x8:Nat), 0=(↑x8:Int)∧gapSum (List.take b6 (gapsE (Ent.mk 520 y3.2.1 y3.2.2.1 2 (List.length
      y3.1) (gapE y3.1) true false y3.2.2.2 (46:Go.TypeId) (decide (List.length y3.1=0)) Option.none) (slN (SV.slice 520 y3.2.1 y3.2.2.1 [] 2 0 (List.length y3.1) y3.2.2.2 (decide (List.length y3.1=0))))))=gapSum (List.take b6 (gapsE (Ent.mk 520 y3.2.1 y3.2.2.1 2 (List.length y3.1) (gapE y3.1) true false y3.2.2.2 (46:Go.TypeId) (decide (List.length y3.1=0)) Option.none) (slN (SV.slice 520 y3.2.1 y3.2.2.1
      [] 2 0 (List.length y3.1) y3.2.2.2 (decide (List.length y3.1=0)))))) - (↑(unc (rowB (Ent.mk 2 b2 0 1 (Int.toNat v4) (fun (k:Nat) ↦ SV.bool (x3.2 k)) true false (Int.toNat v4) (4:Go.TypeId) false Option.none)) x8):Int)∧Nat.le x8 (Int.toNat v4))∧∀ (b7:Nat), b7≤Int.toNat v4→∀ (v17:Int), v17=(↑(Int.toNat v4):Int)→(decide ((↑b7:Int) < v17)=true→0≤(↑b7:Int)∧(↑b7:Int) < (↑(Int.toNat
      v4):Int)∧(b2=b2∧0=0)∧Int.toNat (↑b7:Int) < Int.toNat v4∧((!x3.2 (Int.toNat (↑b7:Int)))=true→∀ (v18:Int), v18=IntKind.i64.wrap (gapSum (List.take b6 (gapsE (Ent.mk 520 y3.2.1 y3.2.2.1 2 (List.length y3.1) (gapE y3.1) true false y3.2.2.2 (46:Go.TypeId) (decide (List.length y3.1=0)) Option.none) (slN (SV.slice 520 y3.2.1 y3.2.2.1 [] 2 0 (List.length y3.1) y3.2.2.2 (decide (List.length y3.1=0)))))) -
      (↑(unc (rowB (Ent.mk 2 b2 0 1 (Int.toNat v4) (fun (k:Nat) ↦ SV.bool (x3.2 k)) true false (Int.toNat v4) (4:Go.TypeId) false Option.none)) b7):Int) - (1:Int))→∀ (v19:Int), v19=IntKind.i64.wrap ((↑b7:Int)+(1:Int))→∃ (x9:Nat), v19=(↑x9:Int)∧v18=gapSum (List.take b6 (gapsE (Ent.mk 520 y3.2.1 y3.2.2.1 2 (List.length y3.1) (gapE y3.1) true false y3.2.2.2 (46:Go.TypeId) (decide (List.length y3.1=0))
      Option.none) (slN (SV.slice 520 y3.2.1 y3.2.2.1 [] 2 0 (List.length y3.1) y3.2.2.2 (decide (List.length y3.1=0)))))) - (↑(unc (rowB (Ent.mk 2 b2 0 1 (Int.toNat v4) (fun (k:Nat) ↦ SV.bool (x3.2 k)) true false (Int.toNat v4) (4:Go.TypeId) false Option.none)) x9):Int)∧x9≤Int.toNat v4∧Int.toNat v4 - x9 < Int.toNat v4 - b7)∧((!x3.2 (Int.toNat (↑b7:Int)))=false→∀ (v19:Int), v19=IntKind.i64.wrap
      ((↑b7:Int)+(1:Int))→∃ (x9:Nat), v19=(↑x9:Int)∧gapSum (List.take b6 (gapsE (Ent.mk 520 y3.2.1 y3.2.2.1 2 (List.length y3.1) (gapE y3.1) true false y3.2.2.2 (46:Go.TypeId) (decide (List.length y3.1=0)) Option.none) (slN (SV.slice 520 y3.2.1 y3.2.2.1 [] 2 0 (List.length y3.1) y3.2.2.2 (decide (List.length y3.1=0)))))) - (↑(unc (rowB (Ent.mk 2 b2 0 1 (Int.toNat v4) (fun (k:Nat) ↦ SV.bool (x3.2 k)) true
      false (Int.toNat v4) (4:Go.TypeId) false Option.none)) b7):Int)=gapSum (List.take b6 (gapsE (Ent.mk 520 y3.2.1 y3.2.2.1 2 (List.length y3.1) (gapE y3.1) true false y3.2.2.2 (46:Go.TypeId) (decide (List.length y3.1=0)) Option.none) (slN (SV.slice 520 y3.2.1 y3.2.2.1 [] 2 0 (List.length y3.1) y3.2.2.2 (decide (List.length y3.1=0)))))) - (↑(unc (rowB (Ent.mk 2 b2 0 1 (Int.toNat v4) (fun (k:Nat) ↦
      SV.bool (x3.2 k)) true false (Int.toNat v4) (4:Go.TypeId) false Option.none)) x9):Int)∧x9≤Int.toNat v4∧Int.toNat v4 - x9 < Int.toNat v4 - b7))∧(decide ((↑b7:Int) < v17)=false→((gapSum (List.take b6 (gapsE (Ent.mk 520 y3.2.1 y3.2.2.1 2 (List.length y3.1) (gapE y3.1) true false y3.2.2.2 (46:Go.TypeId) (decide (List.length y3.1=0)) Option.none) (slN (SV.slice 520 y3.2.1 y3.2.2.1 [] 2 0 (List.length
      y3.1) y3.2.2.2 (decide (List.length y3.1=0)))))) - (↑(unc (rowB (Ent.mk 2 b2 0 1 (Int.toNat v4) (fun (k:Nat) ↦ SV.bool (x3.2 k)) true false (Int.toNat v4) (4:Go.TypeId) false Option.none)) b7):Int) != (0:Int))=true→false=true)∧((gapSum (List.take b6 (gapsE (Ent.mk 520 y3.2.1 y3.2.2.1 2 (List.length y3.1) (gapE y3.1) true false y3.2.2.2 (46:Go.TypeId) (decide (List.length y3.1=0)) Option.none) (slN
      (SV.slice 520 y3.2.1 y3.2.2.1 [] 2 0 (List.length y3.1) y3.2.2.2 (decide (List.length y3.1=0)))))) - (↑(unc (rowB (Ent.mk 2 b2 0 1 (Int.toNat v4) (fun (k:Nat) ↦ SV.bool (x3.2 k)) true false (Int.toNat v4) (4:Go.TypeId) false Option.none)) b7):Int) != (0:Int))=false→∀ (v20:Int), v20=IntKind.i64.wrap ((↑b3:Int)+(1:Int))→(∃ (x9:Nat),
      v20=(↑x9:Int)∧t5=false∧t6=false∧t13=false∧(0=0∧b1=b1∧0=0)∧(b2=b2∧0=0∧0=0∧Int.toNat v4=Int.toNat v4∧Int.toNat v4=Int.toNat v4∧false=false)∧((x6.bR=b1∧0=0∧false=false∧1≤1∧1≤1∧1≤1)∧(10:Int)=10∧(3:Int)=3∧false=false∧SVeq (SV.slice 501 x6.ts.bO x6.ts.oO [] 1 0 1 x6.ts.cO false) (SV.slice 999999 0 0 [] 0 0 0 0 true)∧0=0∧0=0∧0=0∧0=0∧0=0∧true=true)∧((b2=b2∧0=0∧false=false∧Int.toNat v4≤Int.toNat
      v4∧Int.toNat v4≤Int.toNat v4∧Int.toNat v4≤Int.toNat v4)∧∀ (i6:Nat), i6 < Int.toNat v4→x3.2 i6=false)∧x9≤pn∧pn - x9 < pn - b3)∨∃ (x10:FS), v20=(↑x10.i:Int)∧t5=x10.me∧t6=x10.en∧t13=x10.dn∧(0=0∧b1=b1∧0=0)∧(b2=b2∧0=0∧0=0∧Int.toNat v4=Int.toNat v4∧Int.toNat v4=Int.toNat v4∧false=false)∧((b2=b2∧0=0∧false=false∧Int.toNat v4≤Int.toNat v4∧Int.toNat v4≤Int.toNat v4∧Int.toNat v4≤Int.toNat v4)∧∀ (i7:Nat), i7 <
      Int.toNat v4→x3.2 i7=x10.hf i7)∧((x6.bR=b1∧0=0∧false=false∧1≤1∧1≤1∧1≤1)∧(10:Int)=10∧(3:Int)=3∧false=false∧(x6.ts.bO=x10.ts.bO∧x6.ts.oO=x10.ts.oO∧0=0∧1=1∧x6.ts.cO=x10.ts.cO∧false=false)∧0=0∧0=0∧0=0∧0=0∧0=0∧true=true)∧((x6.ts.bO=x10.ts.bO∧x6.ts.oO=x10.ts.oO∧false=false∧1≤1∧1≤x10.ts.cO∧x10.ts.cO≤x6.ts.cO)∧∀ (i8:Nat), i8 <
      1→0=0∧x6.ts.bT=x10.ts.bT∧0=0)∧((x6.ts.bT=x10.ts.bT∧0=0∧false=false∧1≤1∧1≤1∧1≤1)∧(3:Int)=3∧x6.ts.ph=x10.ts.ph∧x6.ts.tme=x10.ts.tme∧x6.ts.ten=x10.ts.ten∧x6.ts.nm=x10.ts.nm∧x6.ts.sz=x10.ts.sz∧x6.ts.la=x10.ts.la∧x6.ts.sm=x10.ts.sm∧(x6.ts.tx.1=x10.ts.tx.1∧x6.ts.tx.2.1=x10.ts.tx.2.1∧0=0∧x6.ts.tx.2.2.1=x10.ts.tx.2.2.1∧x6.ts.tx.2.2.2.1=x10.ts.tx.2.2.2.1∧decide (x6.ts.tx.2.2.1=0)=decide
      (x10.ts.tx.2.2.1=0))∧x6.ts.bm=x10.ts.bm∧x6.ts.tr=x10.ts.tr∧(0:Int)=0∧x6.ts.wy=x10.ts.wy∧x6.ts.cl=x10.ts.cl∧x6.ts.du=x10.ts.du)∧((x6.ts.tx.1=x10.ts.tx.1∧x6.ts.tx.2.1=x10.ts.tx.2.1∧decide (x6.ts.tx.2.2.1=0)=decide (x10.ts.tx.2.2.1=0)∧x10.ts.tx.2.2.1≤x6.ts.tx.2.2.1∧x10.ts.tx.2.2.1≤x10.ts.tx.2.2.2.1∧x10.ts.tx.2.2.2.1≤x6.ts.tx.2.2.2.1)∧∀ (i9:Nat), i9 < x10.ts.tx.2.2.1→x6.ts.tx.2.2.2.2
      i9=x10.ts.tx.2.2.2.2 i9)∧(∀ (i10:Nat), i10 < 1→∃ (x11:Nat), x11 < 1∧(x6.ts.bm, 0)=(x10.ts.bm, 0)∧(∀ (v21:Int), x6.ts.h v21=x10.ts.h v21)∧∀ (v22:Int), x6.ts.h v22=true→x6.ts.ge v22=x10.ts.ge v22)∧x10.i≤pn∧FOk name file x10.hf x10.me x10.en x10.dn x10.ts)))∧(t14=false→∀ (v17:Int), v17=IntKind.i64.wrap ((↑b3:Int)+(1:Int))→(∃ (x9:Nat),
      v17=(↑x9:Int)∧t5=false∧t6=false∧t13=false∧(0=0∧b1=b1∧0=0)∧(b2=b2∧0=0∧0=0∧Int.toNat v4=Int.toNat v4∧Int.toNat v4=Int.toNat v4∧false=false)∧((x6.bR=b1∧0=0∧false=false∧1≤1∧1≤1∧1≤1)∧(10:Int)=10∧(3:Int)=3∧false=false∧SVeq (SV.slice 501 x6.ts.bO x6.ts.oO [] 1 0 1 x6.ts.cO false) (SV.slice 999999 0 0 [] 0 0 0 0 true)∧0=0∧0=0∧0=0∧0=0∧0=0∧true=true)∧((b2=b2∧0=0∧false=false∧Int.toNat v4≤Int.toNat
      v4∧Int.toNat v4≤Int.toNat v4∧Int.toNat v4≤Int.toNat v4)∧∀ (i6:Nat), i6 < Int.toNat v4→x3.2 i6=false)∧x9≤pn∧pn - x9 < pn - b3)∨∃ (x10:FS), v17=(↑x10.i:Int)∧t5=x10.me∧t6=x10.en∧t13=x10.dn∧(0=0∧b1=b1∧0=0)∧(b2=b2∧0=0∧0=0∧Int.toNat v4=Int.toNat v4∧Int.toNat v4=Int.toNat v4∧false=false)∧((b2=b2∧0=0∧false=false∧Int.toNat v4≤Int.toNat v4∧Int.toNat v4≤Int.toNat v4∧Int.toNat v4≤Int.toNat v4)∧∀ (i7:Nat), i7 <
      Int.toNat v4→x3.2 i7=x10.hf i7)∧((x6.bR=b1∧0=0∧false=false∧1≤1∧1≤1∧1≤1)∧(10:Int)=10∧(3:Int)=3∧false=false∧(x6.ts.bO=x10.ts.bO∧x6.ts.oO=x10.ts.oO∧0=0∧1=1∧x6.ts.cO=x10.ts.cO∧false=false)∧0=0∧0=0∧0=0∧0=0∧0=0∧true=true)∧((x6.ts.bO=x10.ts.bO∧x6.ts.oO=x10.ts.oO∧false=false∧1≤1∧1≤x10.ts.cO∧x10.ts.cO≤x6.ts.cO)∧∀ (i8:Nat), i8 <
      1→0=0∧x6.ts.bT=x10.ts.bT∧0=0)∧((x6.ts.bT=x10.ts.bT∧0=0∧false=false∧1≤1∧1≤1∧1≤1)∧(3:Int)=3∧x6.ts.ph=x10.ts.ph∧x6.ts.tme=x10.ts.tme∧x6.ts.ten=x10.ts.ten∧x6.ts.nm=x10.ts.nm∧x6.ts.sz=x10.ts.sz∧x6.ts.la=x10.ts.la∧x6.ts.sm=x10.ts.sm∧(x6.ts.tx.1=x10.ts.tx.1∧x6.ts.tx.2.1=x10.ts.tx.2.1∧0=0∧x6.ts.tx.2.2.1=x10.ts.tx.2.2.1∧x6.ts.tx.2.2.2.1=x10.ts.tx.2.2.2.1∧decide (x6.ts.tx.2.2.1=0)=decide
      (x10.ts.tx.2.2.1=0))∧x6.ts.bm=x10.ts.bm∧x6.ts.tr=x10.ts.tr∧(0:Int)=0∧x6.ts.wy=x10.ts.wy∧x6.ts.cl=x10.ts.cl∧x6.ts.du=x10.ts.du)∧((x6.ts.tx.1=x10.ts.tx.1∧x6.ts.tx.2.1=x10.ts.tx.2.1∧decide (x6.ts.tx.2.2.1=0)=decide (x10.ts.tx.2.2.1=0)∧x10.ts.tx.2.2.1≤x6.ts.tx.2.2.1∧x10.ts.tx.2.2.1≤x10.ts.tx.2.2.2.1∧x10.ts.tx.2.2.2.1≤x6.ts.tx.2.2.2.1)∧∀ (i9:Nat), i9 < x10.ts.tx.2.2.1→x6.ts.tx.2.2.2.2
      i9=x10.ts.tx.2.2.2.2 i9)∧(∀ (i10:Nat), i10 < 1→∃ (x11:Nat), x11 < 1∧(x6.ts.bm, 0)=(x10.ts.bm, 0)∧(∀ (v18:Int), x6.ts.h v18=x10.ts.h v18)∧∀ (v19:Int), x6.ts.h v19=true→x6.ts.ge v19=x10.ts.ge v19)∧x10.i≤pn∧FOk name file x10.hf x10.me x10.en x10.dn x10.ts))))))))∧(decide ((↑b3:Int) < v5)=false→true=true))∧∀ (y1:FS), y1.i≤pn∧FOk name file y1.hf y1.me y1.en y1.dn y1.ts→∀ (v5:Int), v5=(↑pn:Int)→(decide
      ((↑y1.i:Int) < v5)=true→0≤(↑y1.i:Int)∧(↑y1.i:Int) < (↑pn:Int)∧(pb=pb∧po=po)∧Int.toNat (↑y1.i:Int) < pn∧(1≤List.length name∧List.length name≤32)∧List.length file≤3000∧∀ (s1:List UInt8), s1=ofL (partU ((pf (Int.toNat (↑y1.i:Int))).1) (((pf (Int.toNat (↑y1.i:Int))).2).1) ((((pf (Int.toNat (↑y1.i:Int))).2).2).1) name file)→∀ (t4:Bool), t4=ofB (partU ((pf (Int.toNat (↑y1.i:Int))).1) (((pf (Int.toNat
      (↑y1.i:Int))).2).1) ((((pf (Int.toNat (↑y1.i:Int))).2).2).1) name file)→((!t4)=true→∀ (v6:Int), v6=IntKind.i64.wrap ((↑y1.i:Int)+(1:Int))→∃ (x2:FS), v6=(↑x2.i:Int)∧y1.me=x2.me∧y1.en=x2.en∧y1.dn=x2.dn∧(0=0∧b1=b1∧0=0)∧(b2=b2∧0=0∧0=0∧Int.toNat v4=Int.toNat v4∧Int.toNat v4=Int.toNat v4∧false=false)∧((b2=b2∧0=0∧false=false∧Int.toNat v4≤Int.toNat v4∧Int.toNat v4≤Int.toNat v4∧Int.toNat v4≤Int.toNat v4)∧∀
      (i2:Nat), i2 < Int.toNat v4→y1.hf i2=x2.hf i2)∧((b1=b1∧0=0∧false=false∧1≤1∧1≤1∧1≤1)∧(10:Int)=10∧(3:Int)=3∧false=false∧(y1.ts.bO=x2.ts.bO∧y1.ts.oO=x2.ts.oO∧0=0∧1=1∧y1.ts.cO=x2.ts.cO∧false=false)∧0=0∧0=0∧0=0∧0=0∧0=0∧true=true)∧((y1.ts.bO=x2.ts.bO∧y1.ts.oO=x2.ts.oO∧false=false∧1≤1∧1≤x2.ts.cO∧x2.ts.cO≤y1.ts.cO)∧∀ (i3:Nat), i3 <
      1→0=0∧y1.ts.bT=x2.ts.bT∧0=0)∧((y1.ts.bT=x2.ts.bT∧0=0∧false=false∧1≤1∧1≤1∧1≤1)∧(3:Int)=3∧y1.ts.ph=x2.ts.ph∧y1.ts.tme=x2.ts.tme∧y1.ts.ten=x2.ts.ten∧y1.ts.nm=x2.ts.nm∧y1.ts.sz=x2.ts.sz∧y1.ts.la=x2.ts.la∧y1.ts.sm=x2.ts.sm∧(y1.ts.tx.1=x2.ts.tx.1∧y1.ts.tx.2.1=x2.ts.tx.2.1∧0=0∧y1.ts.tx.2.2.1=x2.ts.tx.2.2.1∧y1.ts.tx.2.2.2.1=x2.ts.tx.2.2.2.1∧decide (y1.ts.tx.2.2.1=0)=decide
      (x2.ts.tx.2.2.1=0))∧y1.ts.bm=x2.ts.bm∧y1.ts.tr=x2.ts.tr∧(0:Int)=0∧y1.ts.wy=x2.ts.wy∧y1.ts.cl=x2.ts.cl∧y1.ts.du=x2.ts.du)∧((y1.ts.tx.1=x2.ts.tx.1∧y1.ts.tx.2.1=x2.ts.tx.2.1∧decide (y1.ts.tx.2.2.1=0)=decide (x2.ts.tx.2.2.1=0)∧x2.ts.tx.2.2.1≤y1.ts.tx.2.2.1∧x2.ts.tx.2.2.1≤x2.ts.tx.2.2.2.1∧x2.ts.tx.2.2.2.1≤y1.ts.tx.2.2.2.1)∧∀ (i4:Nat), i4 < x2.ts.tx.2.2.1→y1.ts.tx.2.2.2.2 i4=x2.ts.tx.2.2.2.2 i4)∧(∀
      (i5:Nat), i5 < 1→∃ (x3:Nat), x3 < 1∧(y1.ts.bm, 0)=(x2.ts.bm, 0)∧(∀ (v7:Int), y1.ts.h v7=x2.ts.h v7)∧∀ (v8:Int), y1.ts.h v8=true→y1.ts.ge v8=x2.ts.ge v8)∧(x2.i≤pn∧FOk name file x2.hf x2.me x2.en x2.dn x2.ts)∧pn - x2.i < pn - y1.i)∧((!t4)=false→∀ (x'1:List UInt8 × Unit), x'1=(s1, ())→goodB (Prod.fst x'1)∧(unB (Prod.fst x'1)).kind≤(3:Int)∧∀ (y2:Unit), True→∀ (v7:Int), v7=0→∀ (b4:Nat),
      (b4=b4∧0=0)∧(y1.me=false→b4=b4∧0=0)∧∀ (t5:Bool), (t5=if y1.me=true then true else (unB (Prod.fst x'1)).kind==(1:Int))→(y1.en=false→b4=b4∧0=0)∧∀ (t6:Bool), (t6=if y1.en=true then true else (unB (Prod.fst x'1)).kind==(3:Int))→(∃ (x2:Nat × (Nat→Bool)), 0=(↑x2.1:Int)∧(b2=b2∧0=0∧0=0∧Int.toNat v4=Int.toNat v4∧Int.toNat v4=Int.toNat v4∧false=false)∧((b2=b2∧0=0∧false=false∧Int.toNat v4≤Int.toNat
      v4∧Int.toNat v4≤Int.toNat v4∧Int.toNat v4≤Int.toNat v4)∧∀ (i2:Nat), i2 < Int.toNat v4→y1.hf i2=x2.2 i2)∧x2.1≤List.length (strS (fldV (SV.agg [SV.int IntKind.i64 ((unB (Prod.fst x'1)).kind), SV.int IntKind.i64 ((unB (Prod.fst x'1)).number), SV.str ((unB (Prod.fst x'1)).name), SV.int IntKind.i64 ((unB (Prod.fst x'1)).size), SV.int IntKind.u32 ((unB (Prod.fst x'1)).sum), SV.int IntKind.i64 ((unB
      (Prod.fst x'1)).offset), SV.str ((unB (Prod.fst x'1)).data), SV.int IntKind.i64 ((unB (Prod.fst x'1)).why), SV.int IntKind.i64 ((unB (Prod.fst x'1)).of), SV.bool ((unB (Prod.fst x'1)).me), SV.slice 999999 0 0 [] 0 0 0 0 true]) 6))∧∀ (k1:Nat), x2.2 k1=(rowB (Ent.mk 2 b2 0 1 (Int.toNat v4) (fun (k:Nat) ↦ SV.bool (y1.hf k)) true false (Int.toNat v4) (4:Go.TypeId) false Option.none) k1||decide ((unB
      (Prod.fst x'1)).offset≤(↑k1:Int))&&decide ((↑k1:Int) < (unB (Prod.fst x'1)).offset+(↑x2.1:Int))))∧∀ (x3:Nat × (Nat→Bool)), (x3.1≤List.length (strS (fldV (SV.agg [SV.int IntKind.i64 ((unB (Prod.fst x'1)).kind), SV.int IntKind.i64 ((unB (Prod.fst x'1)).number), SV.str ((unB (Prod.fst x'1)).name), SV.int IntKind.i64 ((unB (Prod.fst x'1)).size), SV.int IntKind.u32 ((unB (Prod.fst x'1)).sum), SV.int
      IntKind.i64 ((unB (Prod.fst x'1)).offset), SV.str ((unB (Prod.fst x'1)).data), SV.int IntKind.i64 ((unB (Prod.fst x'1)).why), SV.int IntKind.i64 ((unB (Prod.fst x'1)).of), SV.bool ((unB (Prod.fst x'1)).me), SV.slice 999999 0 0 [] 0 0 0 0 true]) 6))∧∀ (k:Nat), x3.2 k=(rowB (Ent.mk 2 b2 0 1 (Int.toNat v4) (fun (k:Nat) ↦ SV.bool (y1.hf k)) true false (Int.toNat v4) (4:Go.TypeId) false Option.none)
      k||decide ((unB (Prod.fst x'1)).offset≤(↑k:Int))&&decide ((↑k:Int) < (unB (Prod.fst x'1)).offset+(↑x3.1:Int))))→(b4=b4∧0=0)∧∀ (v8:Int), v8=(↑(List.length ((unB (Prod.fst x'1)).data)):Int)→(decide ((↑x3.1:Int) < v8)=true→(b4=b4∧0=0)∧∀ (v9:Int), v9=IntKind.i64.wrap ((unB (Prod.fst x'1)).offset+(↑x3.1:Int))→0≤v9∧v9 < (↑(Int.toNat v4):Int)∧(b2=b2∧0=0)∧Int.toNat v9 < Int.toNat v4∧∀ (v10:Int),
      v10=IntKind.i64.wrap ((↑x3.1:Int)+(1:Int))→∃ (x4:Nat × (Nat→Bool)), v10=(↑x4.1:Int)∧(b2=b2∧0=0∧0=0∧Int.toNat v4=Int.toNat v4∧Int.toNat v4=Int.toNat v4∧false=false)∧((b2=b2∧0=0∧false=false∧Int.toNat v4≤Int.toNat v4∧Int.toNat v4≤Int.toNat v4∧Int.toNat v4≤Int.toNat v4)∧∀ (i3:Nat), i3 < Int.toNat v4→(if i3=Int.toNat v9 then true else x3.2 i3)=x4.2 i3)∧(x4.1≤List.length (strS (fldV (SV.agg [SV.int
      IntKind.i64 ((unB (Prod.fst x'1)).kind), SV.int IntKind.i64 ((unB (Prod.fst x'1)).number), SV.str ((unB (Prod.fst x'1)).name), SV.int IntKind.i64 ((unB (Prod.fst x'1)).size), SV.int IntKind.u32 ((unB (Prod.fst x'1)).sum), SV.int IntKind.i64 ((unB (Prod.fst x'1)).offset), SV.str ((unB (Prod.fst x'1)).data), SV.int IntKind.i64 ((unB (Prod.fst x'1)).why), SV.int IntKind.i64 ((unB (Prod.fst x'1)).of),
      SV.bool ((unB (Prod.fst x'1)).me), SV.slice 999999 0 0 [] 0 0 0 0 true]) 6))∧∀ (k2:Nat), x4.2 k2=(rowB (Ent.mk 2 b2 0 1 (Int.toNat v4) (fun (k:Nat) ↦ SV.bool (y1.hf k)) true false (Int.toNat v4) (4:Go.TypeId) false Option.none) k2||decide ((unB (Prod.fst x'1)).offset≤(↑k2:Int))&&decide ((↑k2:Int) < (unB (Prod.fst x'1)).offset+(↑x4.1:Int))))∧List.length (strS (fldV (SV.agg [SV.int IntKind.i64 ((unB
      (Prod.fst x'1)).kind), SV.int IntKind.i64 ((unB (Prod.fst x'1)).number), SV.str ((unB (Prod.fst x'1)).name), SV.int IntKind.i64 ((unB (Prod.fst x'1)).size), SV.int IntKind.u32 ((unB (Prod.fst x'1)).sum), SV.int IntKind.i64 ((unB (Prod.fst x'1)).offset), SV.str ((unB (Prod.fst x'1)).data), SV.int IntKind.i64 ((unB (Prod.fst x'1)).why), SV.int IntKind.i64 ((unB (Prod.fst x'1)).of), SV.bool ((unB
      (Prod.fst x'1)).me), SV.slice 999999 0 0 [] 0 0 0 0 true]) 6)) - x4.1 < List.length (strS (fldV (SV.agg [SV.int IntKind.i64 ((unB (Prod.fst x'1)).kind), SV.int IntKind.i64 ((unB (Prod.fst x'1)).number), SV.str ((unB (Prod.fst x'1)).name), SV.int IntKind.i64 ((unB (Prod.fst x'1)).size), SV.int IntKind.u32 ((unB (Prod.fst x'1)).sum), SV.int IntKind.i64 ((unB (Prod.fst x'1)).offset), SV.str ((unB
      (Prod.fst x'1)).data), SV.int IntKind.i64 ((unB (Prod.fst x'1)).why), SV.int IntKind.i64 ((unB (Prod.fst x'1)).of), SV.bool ((unB (Prod.fst x'1)).me), SV.slice 999999 0 0 [] 0 0 0 0 true]) 6)) - x3.1)∧(decide ((↑x3.1:Int) < v8)=false→∀ (t7:Bool), (t7=if t5=true then t6 else false)→(∃ (x4:Nat), 0=(↑x4:Int)∧t7=(boolS (SV.bool t7)&&allTo (rowB (Ent.mk 2 b2 0 1 (Int.toNat v4) (fun (k:Nat) ↦ SV.bool
      (x3.2 k)) true false (Int.toNat v4) (4:Go.TypeId) false Option.none)) x4)∧Nat.le x4 (Int.toNat v4))∧∀ (b5:Nat), b5≤Int.toNat v4→∀ (v10:Int), v10=(↑(Int.toNat v4):Int)→(decide ((↑b5:Int) < v10)=true→((boolS (SV.bool t7)&&allTo (rowB (Ent.mk 2 b2 0 1 (Int.toNat v4) (fun (k:Nat) ↦ SV.bool (x3.2 k)) true false (Int.toNat v4) (4:Go.TypeId) false Option.none)) b5)=true→0≤(↑b5:Int))∧((boolS (SV.bool
      t7)&&allTo (rowB (Ent.mk 2 b2 0 1 (Int.toNat v4) (fun (k:Nat) ↦ SV.bool (x3.2 k)) true false (Int.toNat v4) (4:Go.TypeId) false Option.none)) b5)=true→(↑b5:Int) < (↑(Int.toNat v4):Int))∧((boolS (SV.bool t7)&&allTo (rowB (Ent.mk 2 b2 0 1 (Int.toNat v4) (fun (k:Nat) ↦ SV.bool (x3.2 k)) true false (Int.toNat v4) (4:Go.TypeId) false Option.none)) b5)=true→b2=b2∧0=0)∧((boolS (SV.bool t7)&&allTo (rowB
      (Ent.mk 2 b2 0 1 (Int.toNat v4) (fun (k:Nat) ↦ SV.bool (x3.2 k)) true false (Int.toNat v4) (4:Go.TypeId) false Option.none)) b5)=true→Int.toNat (↑b5:Int) < Int.toNat v4)∧∀ (t8:Bool), (t8=if (boolS (SV.bool t7)&&allTo (rowB (Ent.mk 2 b2 0 1 (Int.toNat v4) (fun (k:Nat) ↦ SV.bool (x3.2 k)) true false (Int.toNat v4) (4:Go.TypeId) false Option.none)) b5)=true then x3.2 (Int.toNat (↑b5:Int)) else
      false)→∀ (v11:Int), v11=IntKind.i64.wrap ((↑b5:Int)+(1:Int))→∃ (x5:Nat), v11=(↑x5:Int)∧t8=(boolS (SV.bool t7)&&allTo (rowB (Ent.mk 2 b2 0 1 (Int.toNat v4) (fun (k:Nat) ↦ SV.bool (x3.2 k)) true false (Int.toNat v4) (4:Go.TypeId) false Option.none)) x5)∧x5≤Int.toNat v4∧Int.toNat v4 - x5 < Int.toNat v4 - b5)∧(decide ((↑b5:Int) < v10)=false→∃ (x5:TX), (0=0∧b1=x5.bR∧0=0)∧s1=putU
      x5.u∧((b1=x5.bR∧0=0∧false=false∧1≤1∧1≤1∧1≤1)∧(10:Int)=10∧(3:Int)=3∧false=false∧(y1.ts.bO=x5.ts.bO∧y1.ts.oO=x5.ts.oO∧0=0∧1=1∧y1.ts.cO=x5.ts.cO∧false=false)∧0=0∧0=0∧0=0∧0=0∧0=0∧true=true)∧((y1.ts.bO=x5.ts.bO∧y1.ts.oO=x5.ts.oO∧false=false∧1≤1∧1≤x5.ts.cO∧x5.ts.cO≤y1.ts.cO)∧∀ (i3:Nat), i3 <
      1→0=0∧y1.ts.bT=x5.ts.bT∧0=0)∧((y1.ts.bT=x5.ts.bT∧0=0∧false=false∧1≤1∧1≤1∧1≤1)∧(3:Int)=3∧y1.ts.ph=x5.ts.ph∧y1.ts.tme=x5.ts.tme∧y1.ts.ten=x5.ts.ten∧y1.ts.nm=x5.ts.nm∧y1.ts.sz=x5.ts.sz∧y1.ts.la=x5.ts.la∧y1.ts.sm=x5.ts.sm∧(y1.ts.tx.1=x5.ts.tx.1∧y1.ts.tx.2.1=x5.ts.tx.2.1∧0=0∧y1.ts.tx.2.2.1=x5.ts.tx.2.2.1∧y1.ts.tx.2.2.2.1=x5.ts.tx.2.2.2.1∧decide (y1.ts.tx.2.2.1=0)=decide
      (x5.ts.tx.2.2.1=0))∧y1.ts.bm=x5.ts.bm∧y1.ts.tr=x5.ts.tr∧(0:Int)=0∧y1.ts.wy=x5.ts.wy∧y1.ts.cl=x5.ts.cl∧y1.ts.du=x5.ts.du)∧((y1.ts.tx.1=x5.ts.tx.1∧y1.ts.tx.2.1=x5.ts.tx.2.1∧decide (y1.ts.tx.2.2.1=0)=decide (x5.ts.tx.2.2.1=0)∧x5.ts.tx.2.2.1≤y1.ts.tx.2.2.1∧x5.ts.tx.2.2.1≤x5.ts.tx.2.2.2.1∧x5.ts.tx.2.2.2.1≤y1.ts.tx.2.2.2.1)∧∀ (i4:Nat), i4 < x5.ts.tx.2.2.1→y1.ts.tx.2.2.2.2 i4=x5.ts.tx.2.2.2.2 i4)∧(∀
      (i5:Nat), i5 < 1→∃ (x6:Nat), x6 < 1∧(y1.ts.bm, 0)=(x5.ts.bm, 0)∧(∀ (v11:Int), y1.ts.h v11=x5.ts.h v11)∧∀ (v12:Int), y1.ts.h v12=true→y1.ts.ge v12=x5.ts.ge v12)∧(FOk x5.name x5.file x5.hf x5.me x5.en x5.dn x5.ts∧FU x5.name x5.file x5.u∧fitN x5.name x5.file)∧∀ (y3:J27), tk2P x5 y3→∀ (v11:Int), v11=0→∀ (v12:Int), v12=(↑y3.nl:Int)→∀ (t9:Bool), (t9=if (v11 != (0:Int))=true then true else decide (v12 >
      (1:Int)))→∀ (v13:Int), v13=(↑y3.nl:Int)→∀ (t10:Bool), (t10=if (boolS (SV.bool t7)&&allTo (rowB (Ent.mk 2 b2 0 1 (Int.toNat v4) (fun (k:Nat) ↦ SV.bool (x3.2 k)) true false (Int.toNat v4) (4:Go.TypeId) false Option.none)) b5)=true then !y1.dn else false)→∀ (t11:Bool), (t11=if t9=true then true else !(v13==(1:Int))==t10)→(t11=true→false=true)∧(t11=false→∀ (v14:Int),
      v14=(↑y3.nl:Int)→((v14==(1:Int))=true→(0:Int)≤0)∧((v14==(1:Int))=true→0 < (↑y3.nl:Int))∧((v14==(1:Int))=true→y3.bl=y3.bl∧y3.ol=y3.ol)∧((v14==(1:Int))=true→0 < y3.nl)∧∀ (t12:Bool), (t12=if (v14==(1:Int))=true then !((3:Int)==(3:Int)&&((0:Int)==(0:Int)&&(y3.enm==name&&(y3.efl==file&&true)))) else false)→(t12=true→false=true)∧(t12=false→∀ (t13:Bool), (t13=if y1.dn=true then true else boolS (SV.bool
      t7)&&allTo (rowB (Ent.mk 2 b2 0 1 (Int.toNat v4) (fun (k:Nat) ↦ SV.bool (x3.2 k)) true false (Int.toNat v4) (4:Go.TypeId) false Option.none)) b5)→∃ (x6:GX),
      (0=0∧b1=x6.bR∧0=0)∧(3:Int)=3∧((x5.bR=x6.bR∧0=0∧false=false∧1≤1∧1≤1∧1≤1)∧(10:Int)=10∧(3:Int)=3∧false=false∧(y3.ts.bO=x6.ts.bO∧y3.ts.oO=x6.ts.oO∧0=0∧1=1∧y3.ts.cO=x6.ts.cO∧false=false)∧0=0∧0=0∧0=0∧0=0∧0=0∧true=true)∧((y3.ts.bO=x6.ts.bO∧y3.ts.oO=x6.ts.oO∧false=false∧1≤1∧1≤x6.ts.cO∧x6.ts.cO≤y3.ts.cO)∧∀ (i6:Nat), i6 <
      1→0=0∧y3.ts.bT=x6.ts.bT∧0=0)∧((y3.ts.bT=x6.ts.bT∧0=0∧false=false∧1≤1∧1≤1∧1≤1)∧(3:Int)=3∧y3.ts.ph=x6.ts.ph∧y3.ts.tme=x6.ts.tme∧y3.ts.ten=x6.ts.ten∧y3.ts.nm=x6.ts.nm∧y3.ts.sz=x6.ts.sz∧y3.ts.la=x6.ts.la∧y3.ts.sm=x6.ts.sm∧(y3.ts.tx.1=x6.ts.tx.1∧y3.ts.tx.2.1=x6.ts.tx.2.1∧0=0∧y3.ts.tx.2.2.1=x6.ts.tx.2.2.1∧y3.ts.tx.2.2.2.1=x6.ts.tx.2.2.2.1∧decide (y3.ts.tx.2.2.1=0)=decide
      (x6.ts.tx.2.2.1=0))∧y3.ts.bm=x6.ts.bm∧y3.ts.tr=x6.ts.tr∧(0:Int)=0∧y3.ts.wy=x6.ts.wy∧y3.ts.cl=x6.ts.cl∧y3.ts.du=x6.ts.du)∧((y3.ts.tx.1=x6.ts.tx.1∧y3.ts.tx.2.1=x6.ts.tx.2.1∧decide (y3.ts.tx.2.2.1=0)=decide (x6.ts.tx.2.2.1=0)∧x6.ts.tx.2.2.1≤y3.ts.tx.2.2.1∧x6.ts.tx.2.2.1≤x6.ts.tx.2.2.2.1∧x6.ts.tx.2.2.2.1≤y3.ts.tx.2.2.2.1)∧∀ (i7:Nat), i7 < x6.ts.tx.2.2.1→y3.ts.tx.2.2.2.2 i7=x6.ts.tx.2.2.2.2 i7)∧(∀
      (i8:Nat), i8 < 1→∃ (x7:Nat), x7 < 1∧(y3.ts.bm, 0)=(x6.ts.bm, 0)∧(∀ (v15:Int), y3.ts.h v15=x6.ts.h v15)∧∀ (v16:Int), y3.ts.h v16=true→y3.ts.ge v16=x6.ts.ge v16)∧(FOk x6.name x6.file x6.hf x6.me x6.en x6.dn x6.ts∧List.length x6.file≤3000)∧∀ (y4:List (Int × Int) × Nat × Nat × Nat), gpP x6 y4→(∃ (x7:Nat), 0=(↑x7:Int)∧(0:Int)=gapSum (List.take x7 (gapsE (Ent.mk 520 y4.2.1 y4.2.2.1 2 (List.length y4.1)
      (gapE y4.1) true false y4.2.2.2 (46:Go.TypeId) (decide (List.length y4.1=0)) Option.none) (slN (SV.slice 520 y4.2.1 y4.2.2.1 [] 2 0 (List.length y4.1) y4.2.2.2 (decide (List.length y4.1=0))))))∧Nat.le x7 (slN (SV.slice 520 y4.2.1 y4.2.2.1 [] 2 0 (List.length y4.1) y4.2.2.2 (decide (List.length y4.1=0)))))∧∀ (b6:Nat), b6≤slN (SV.slice 520 y4.2.1 y4.2.2.1 [] 2 0 (List.length y4.1) y4.2.2.2 (decide
      (List.length y4.1=0)))→∀ (v15:Int), v15=(↑(List.length y4.1):Int)→(decide ((↑b6:Int) < v15)=true→0≤(↑b6:Int)∧(↑b6:Int) < (↑(List.length y4.1):Int)∧(y4.2.1=y4.2.1∧y4.2.2.1=y4.2.2.1)∧Int.toNat (↑b6:Int) < List.length y4.1∧∀ (v16:Int), (v16=if (List.getD y4.1 (Int.toNat (↑b6:Int)) ((0:Int), (0:Int))).1 > (0:Int) then (List.getD y4.1 (Int.toNat (↑b6:Int)) ((0:Int), (0:Int))).1 else (0:Int))→(∃
      (x8:Nat), v16=v16+(↑x8:Int)∧gapSum (List.take b6 (gapsE (Ent.mk 520 y4.2.1 y4.2.2.1 2 (List.length y4.1) (gapE y4.1) true false y4.2.2.2 (46:Go.TypeId) (decide (List.length y4.1=0)) Option.none) (slN (SV.slice 520 y4.2.1 y4.2.2.1 [] 2 0 (List.length y4.1) y4.2.2.2 (decide (List.length y4.1=0))))))=gapSum (List.take b6 (gapsE (Ent.mk 520 y4.2.1 y4.2.2.1 2 (List.length y4.1) (gapE y4.1) true false
      y4.2.2.2 (46:Go.TypeId) (decide (List.length y4.1=0)) Option.none) (slN (SV.slice 520 y4.2.1 y4.2.2.1 [] 2 0 (List.length y4.1) y4.2.2.2 (decide (List.length y4.1=0))))))+(↑x8:Int)∧Int.NonNeg ((List.getD y4.1 (Int.toNat (↑b6:Int)) ((0:Int), (0:Int))).2 - (v16+(↑x8:Int))))∧∀ (b7:Nat), v16+(↑b7:Int)≤(List.getD y4.1 (Int.toNat (↑b6:Int)) ((0:Int), (0:Int))).2→0≤(↑b6:Int)∧(↑b6:Int) < (↑(List.length
      y4.1):Int)∧(y4.2.1=y4.2.1∧y4.2.2.1=y4.2.2.1)∧Int.toNat (↑b6:Int) < List.length y4.1∧(decide (v16+(↑b7:Int) < (List.getD y4.1 (Int.toNat (↑b6:Int)) ((0:Int), (0:Int))).2)=true→∀ (v17:Int), v17=(↑(Int.toNat v4):Int)→(decide (v16+(↑b7:Int)≥v17)=false→(0:Int)≤v16+(↑b7:Int))∧(decide (v16+(↑b7:Int)≥v17)=false→v16+(↑b7:Int) < (↑(Int.toNat v4):Int))∧(decide (v16+(↑b7:Int)≥v17)=false→b2=b2∧0=0)∧(decide
      (v16+(↑b7:Int)≥v17)=false→Int.toNat (v16+(↑b7:Int)) < Int.toNat v4)∧∀ (t14:Bool), (t14=if decide (v16+(↑b7:Int)≥v17)=true then true else x3.2 (Int.toNat (v16+(↑b7:Int))))→(t14=true→false=true)∧(t14=false→∀ (v18:Int), v18=IntKind.i64.wrap (gapSum (List.take b6 (gapsE (Ent.mk 520 y4.2.1 y4.2.2.1 2 (List.length y4.1) (gapE y4.1) true false y4.2.2.2 (46:Go.TypeId) (decide (List.length y4.1=0))
      Option.none) (slN (SV.slice 520 y4.2.1 y4.2.2.1 [] 2 0 (List.length y4.1) y4.2.2.2 (decide (List.length y4.1=0))))))+(↑b7:Int)+(1:Int))→∀ (v19:Int), v19=IntKind.i64.wrap (v16+(↑b7:Int)+(1:Int))→∃ (x9:Nat), v19=v16+(↑x9:Int)∧v18=gapSum (List.take b6 (gapsE (Ent.mk 520 y4.2.1 y4.2.2.1 2 (List.length y4.1) (gapE y4.1) true false y4.2.2.2 (46:Go.TypeId) (decide (List.length y4.1=0)) Option.none) (slN
      (SV.slice 520 y4.2.1 y4.2.2.1 [] 2 0 (List.length y4.1) y4.2.2.2 (decide (List.length y4.1=0))))))+(↑x9:Int)∧v16+(↑x9:Int)≤(List.getD y4.1 (Int.toNat (↑b6:Int)) ((0:Int), (0:Int))).2∧Int.toNat ((List.getD y4.1 (Int.toNat (↑b6:Int)) ((0:Int), (0:Int))).2 - v16) - x9 < Int.toNat ((List.getD y4.1 (Int.toNat (↑b6:Int)) ((0:Int), (0:Int))).2 - v16) - b7))∧(decide (v16+(↑b7:Int) < (List.getD y4.1
      (Int.toNat (↑b6:Int)) ((0:Int), (0:Int))).2)=false→∀ (v18:Int), v18=IntKind.i64.wrap ((↑b6:Int)+(1:Int))→∃ (x9:Nat), v18=(↑x9:Int)∧gapSum (List.take b6 (gapsE (Ent.mk 520 y4.2.1 y4.2.2.1 2 (List.length y4.1) (gapE y4.1) true false y4.2.2.2 (46:Go.TypeId) (decide (List.length y4.1=0)) Option.none) (slN (SV.slice 520 y4.2.1 y4.2.2.1 [] 2 0 (List.length y4.1) y4.2.2.2 (decide (List.length
      y4.1=0))))))+(↑b7:Int)=gapSum (List.take x9 (gapsE (Ent.mk 520 y4.2.1 y4.2.2.1 2 (List.length y4.1) (gapE y4.1) true false y4.2.2.2 (46:Go.TypeId) (decide (List.length y4.1=0)) Option.none) (slN (SV.slice 520 y4.2.1 y4.2.2.1 [] 2 0 (List.length y4.1) y4.2.2.2 (decide (List.length y4.1=0))))))∧x9≤slN (SV.slice 520 y4.2.1 y4.2.2.1 [] 2 0 (List.length y4.1) y4.2.2.2 (decide (List.length y4.1=0)))∧slN
      (SV.slice 520 y4.2.1 y4.2.2.1 [] 2 0 (List.length y4.1) y4.2.2.2 (decide (List.length y4.1=0))) - x9 < slN (SV.slice 520 y4.2.1 y4.2.2.1 [] 2 0 (List.length y4.1) y4.2.2.2 (decide (List.length y4.1=0))) - b6))∧(decide ((↑b6:Int) < v15)=false→∀ (t14:Bool), (t14=if t6=true then !t13 else false)→(t14=true→(∃ (x8:Nat), 0=(↑x8:Int)∧gapSum (List.take b6 (gapsE (Ent.mk 520 y4.2.1 y4.2.2.1 2 (List.length
      y4.1) (gapE y4.1) true false y4.2.2.2 (46:Go.TypeId) (decide (List.length y4.1=0)) Option.none) (slN (SV.slice 520 y4.2.1 y4.2.2.1 [] 2 0 (List.length y4.1) y4.2.2.2 (decide (List.length y4.1=0))))))=gapSum (List.take b6 (gapsE (Ent.mk 520 y4.2.1 y4.2.2.1 2 (List.length y4.1) (gapE y4.1) true false y4.2.2.2 (46:Go.TypeId) (decide (List.length y4.1=0)) Option.none) (slN (SV.slice 520 y4.2.1 y4.2.2.1
      [] 2 0 (List.length y4.1) y4.2.2.2 (decide (List.length y4.1=0)))))) - (↑(unc (rowB (Ent.mk 2 b2 0 1 (Int.toNat v4) (fun (k:Nat) ↦ SV.bool (x3.2 k)) true false (Int.toNat v4) (4:Go.TypeId) false Option.none)) x8):Int)∧Nat.le x8 (Int.toNat v4))∧∀ (b7:Nat), b7≤Int.toNat v4→∀ (v17:Int), v17=(↑(Int.toNat v4):Int)→(decide ((↑b7:Int) < v17)=true→0≤(↑b7:Int)∧(↑b7:Int) < (↑(Int.toNat
      v4):Int)∧(b2=b2∧0=0)∧Int.toNat (↑b7:Int) < Int.toNat v4∧((!x3.2 (Int.toNat (↑b7:Int)))=true→∀ (v18:Int), v18=IntKind.i64.wrap (gapSum (List.take b6 (gapsE (Ent.mk 520 y4.2.1 y4.2.2.1 2 (List.length y4.1) (gapE y4.1) true false y4.2.2.2 (46:Go.TypeId) (decide (List.length y4.1=0)) Option.none) (slN (SV.slice 520 y4.2.1 y4.2.2.1 [] 2 0 (List.length y4.1) y4.2.2.2 (decide (List.length y4.1=0)))))) -
      (↑(unc (rowB (Ent.mk 2 b2 0 1 (Int.toNat v4) (fun (k:Nat) ↦ SV.bool (x3.2 k)) true false (Int.toNat v4) (4:Go.TypeId) false Option.none)) b7):Int) - (1:Int))→∀ (v19:Int), v19=IntKind.i64.wrap ((↑b7:Int)+(1:Int))→∃ (x9:Nat), v19=(↑x9:Int)∧v18=gapSum (List.take b6 (gapsE (Ent.mk 520 y4.2.1 y4.2.2.1 2 (List.length y4.1) (gapE y4.1) true false y4.2.2.2 (46:Go.TypeId) (decide (List.length y4.1=0))
      Option.none) (slN (SV.slice 520 y4.2.1 y4.2.2.1 [] 2 0 (List.length y4.1) y4.2.2.2 (decide (List.length y4.1=0)))))) - (↑(unc (rowB (Ent.mk 2 b2 0 1 (Int.toNat v4) (fun (k:Nat) ↦ SV.bool (x3.2 k)) true false (Int.toNat v4) (4:Go.TypeId) false Option.none)) x9):Int)∧x9≤Int.toNat v4∧Int.toNat v4 - x9 < Int.toNat v4 - b7)∧((!x3.2 (Int.toNat (↑b7:Int)))=false→∀ (v19:Int), v19=IntKind.i64.wrap
      ((↑b7:Int)+(1:Int))→∃ (x9:Nat), v19=(↑x9:Int)∧gapSum (List.take b6 (gapsE (Ent.mk 520 y4.2.1 y4.2.2.1 2 (List.length y4.1) (gapE y4.1) true false y4.2.2.2 (46:Go.TypeId) (decide (List.length y4.1=0)) Option.none) (slN (SV.slice 520 y4.2.1 y4.2.2.1 [] 2 0 (List.length y4.1) y4.2.2.2 (decide (List.length y4.1=0)))))) - (↑(unc (rowB (Ent.mk 2 b2 0 1 (Int.toNat v4) (fun (k:Nat) ↦ SV.bool (x3.2 k)) true
      false (Int.toNat v4) (4:Go.TypeId) false Option.none)) b7):Int)=gapSum (List.take b6 (gapsE (Ent.mk 520 y4.2.1 y4.2.2.1 2 (List.length y4.1) (gapE y4.1) true false y4.2.2.2 (46:Go.TypeId) (decide (List.length y4.1=0)) Option.none) (slN (SV.slice 520 y4.2.1 y4.2.2.1 [] 2 0 (List.length y4.1) y4.2.2.2 (decide (List.length y4.1=0)))))) - (↑(unc (rowB (Ent.mk 2 b2 0 1 (Int.toNat v4) (fun (k:Nat) ↦
      SV.bool (x3.2 k)) true false (Int.toNat v4) (4:Go.TypeId) false Option.none)) x9):Int)∧x9≤Int.toNat v4∧Int.toNat v4 - x9 < Int.toNat v4 - b7))∧(decide ((↑b7:Int) < v17)=false→((gapSum (List.take b6 (gapsE (Ent.mk 520 y4.2.1 y4.2.2.1 2 (List.length y4.1) (gapE y4.1) true false y4.2.2.2 (46:Go.TypeId) (decide (List.length y4.1=0)) Option.none) (slN (SV.slice 520 y4.2.1 y4.2.2.1 [] 2 0 (List.length
      y4.1) y4.2.2.2 (decide (List.length y4.1=0)))))) - (↑(unc (rowB (Ent.mk 2 b2 0 1 (Int.toNat v4) (fun (k:Nat) ↦ SV.bool (x3.2 k)) true false (Int.toNat v4) (4:Go.TypeId) false Option.none)) b7):Int) != (0:Int))=true→false=true)∧((gapSum (List.take b6 (gapsE (Ent.mk 520 y4.2.1 y4.2.2.1 2 (List.length y4.1) (gapE y4.1) true false y4.2.2.2 (46:Go.TypeId) (decide (List.length y4.1=0)) Option.none) (slN
      (SV.slice 520 y4.2.1 y4.2.2.1 [] 2 0 (List.length y4.1) y4.2.2.2 (decide (List.length y4.1=0)))))) - (↑(unc (rowB (Ent.mk 2 b2 0 1 (Int.toNat v4) (fun (k:Nat) ↦ SV.bool (x3.2 k)) true false (Int.toNat v4) (4:Go.TypeId) false Option.none)) b7):Int) != (0:Int))=false→∀ (v20:Int), v20=IntKind.i64.wrap ((↑y1.i:Int)+(1:Int))→∃ (x9:FS),
      v20=(↑x9.i:Int)∧t5=x9.me∧t6=x9.en∧t13=x9.dn∧(0=0∧b1=b1∧0=0)∧(b2=b2∧0=0∧0=0∧Int.toNat v4=Int.toNat v4∧Int.toNat v4=Int.toNat v4∧false=false)∧((b2=b2∧0=0∧false=false∧Int.toNat v4≤Int.toNat v4∧Int.toNat v4≤Int.toNat v4∧Int.toNat v4≤Int.toNat v4)∧∀ (i9:Nat), i9 < Int.toNat v4→x3.2 i9=x9.hf
      i9)∧((x6.bR=b1∧0=0∧false=false∧1≤1∧1≤1∧1≤1)∧(10:Int)=10∧(3:Int)=3∧false=false∧(x6.ts.bO=x9.ts.bO∧x6.ts.oO=x9.ts.oO∧0=0∧1=1∧x6.ts.cO=x9.ts.cO∧false=false)∧0=0∧0=0∧0=0∧0=0∧0=0∧true=true)∧((x6.ts.bO=x9.ts.bO∧x6.ts.oO=x9.ts.oO∧false=false∧1≤1∧1≤x9.ts.cO∧x9.ts.cO≤x6.ts.cO)∧∀ (i10:Nat), i10 <
      1→0=0∧x6.ts.bT=x9.ts.bT∧0=0)∧((x6.ts.bT=x9.ts.bT∧0=0∧false=false∧1≤1∧1≤1∧1≤1)∧(3:Int)=3∧x6.ts.ph=x9.ts.ph∧x6.ts.tme=x9.ts.tme∧x6.ts.ten=x9.ts.ten∧x6.ts.nm=x9.ts.nm∧x6.ts.sz=x9.ts.sz∧x6.ts.la=x9.ts.la∧x6.ts.sm=x9.ts.sm∧(x6.ts.tx.1=x9.ts.tx.1∧x6.ts.tx.2.1=x9.ts.tx.2.1∧0=0∧x6.ts.tx.2.2.1=x9.ts.tx.2.2.1∧x6.ts.tx.2.2.2.1=x9.ts.tx.2.2.2.1∧decide (x6.ts.tx.2.2.1=0)=decide
      (x9.ts.tx.2.2.1=0))∧x6.ts.bm=x9.ts.bm∧x6.ts.tr=x9.ts.tr∧(0:Int)=0∧x6.ts.wy=x9.ts.wy∧x6.ts.cl=x9.ts.cl∧x6.ts.du=x9.ts.du)∧((x6.ts.tx.1=x9.ts.tx.1∧x6.ts.tx.2.1=x9.ts.tx.2.1∧decide (x6.ts.tx.2.2.1=0)=decide (x9.ts.tx.2.2.1=0)∧x9.ts.tx.2.2.1≤x6.ts.tx.2.2.1∧x9.ts.tx.2.2.1≤x9.ts.tx.2.2.2.1∧x9.ts.tx.2.2.2.1≤x6.ts.tx.2.2.2.1)∧∀ (i11:Nat), i11 < x9.ts.tx.2.2.1→x6.ts.tx.2.2.2.2 i11=x9.ts.tx.2.2.2.2 i11)∧(∀
      (i12:Nat), i12 < 1→∃ (x10:Nat), x10 < 1∧(x6.ts.bm, 0)=(x9.ts.bm, 0)∧(∀ (v21:Int), x6.ts.h v21=x9.ts.h v21)∧∀ (v22:Int), x6.ts.h v22=true→x6.ts.ge v22=x9.ts.ge v22)∧(x9.i≤pn∧FOk name file x9.hf x9.me x9.en x9.dn x9.ts)∧pn - x9.i < pn - y1.i)))∧(t14=false→∀ (v17:Int), v17=IntKind.i64.wrap ((↑y1.i:Int)+(1:Int))→∃ (x9:FS),
      v17=(↑x9.i:Int)∧t5=x9.me∧t6=x9.en∧t13=x9.dn∧(0=0∧b1=b1∧0=0)∧(b2=b2∧0=0∧0=0∧Int.toNat v4=Int.toNat v4∧Int.toNat v4=Int.toNat v4∧false=false)∧((b2=b2∧0=0∧false=false∧Int.toNat v4≤Int.toNat v4∧Int.toNat v4≤Int.toNat v4∧Int.toNat v4≤Int.toNat v4)∧∀ (i9:Nat), i9 < Int.toNat v4→x3.2 i9=x9.hf
      i9)∧((x6.bR=b1∧0=0∧false=false∧1≤1∧1≤1∧1≤1)∧(10:Int)=10∧(3:Int)=3∧false=false∧(x6.ts.bO=x9.ts.bO∧x6.ts.oO=x9.ts.oO∧0=0∧1=1∧x6.ts.cO=x9.ts.cO∧false=false)∧0=0∧0=0∧0=0∧0=0∧0=0∧true=true)∧((x6.ts.bO=x9.ts.bO∧x6.ts.oO=x9.ts.oO∧false=false∧1≤1∧1≤x9.ts.cO∧x9.ts.cO≤x6.ts.cO)∧∀ (i10:Nat), i10 <
      1→0=0∧x6.ts.bT=x9.ts.bT∧0=0)∧((x6.ts.bT=x9.ts.bT∧0=0∧false=false∧1≤1∧1≤1∧1≤1)∧(3:Int)=3∧x6.ts.ph=x9.ts.ph∧x6.ts.tme=x9.ts.tme∧x6.ts.ten=x9.ts.ten∧x6.ts.nm=x9.ts.nm∧x6.ts.sz=x9.ts.sz∧x6.ts.la=x9.ts.la∧x6.ts.sm=x9.ts.sm∧(x6.ts.tx.1=x9.ts.tx.1∧x6.ts.tx.2.1=x9.ts.tx.2.1∧0=0∧x6.ts.tx.2.2.1=x9.ts.tx.2.2.1∧x6.ts.tx.2.2.2.1=x9.ts.tx.2.2.2.1∧decide (x6.ts.tx.2.2.1=0)=decide
      (x9.ts.tx.2.2.1=0))∧x6.ts.bm=x9.ts.bm∧x6.ts.tr=x9.ts.tr∧(0:Int)=0∧x6.ts.wy=x9.ts.wy∧x6.ts.cl=x9.ts.cl∧x6.ts.du=x9.ts.du)∧((x6.ts.tx.1=x9.ts.tx.1∧x6.ts.tx.2.1=x9.ts.tx.2.1∧decide (x6.ts.tx.2.2.1=0)=decide (x9.ts.tx.2.2.1=0)∧x9.ts.tx.2.2.1≤x6.ts.tx.2.2.1∧x9.ts.tx.2.2.1≤x9.ts.tx.2.2.2.1∧x9.ts.tx.2.2.2.1≤x6.ts.tx.2.2.2.1)∧∀ (i11:Nat), i11 < x9.ts.tx.2.2.1→x6.ts.tx.2.2.2.2 i11=x9.ts.tx.2.2.2.2 i11)∧(∀
      (i12:Nat), i12 < 1→∃ (x10:Nat), x10 < 1∧(x6.ts.bm, 0)=(x9.ts.bm, 0)∧(∀ (v18:Int), x6.ts.h v18=x9.ts.h v18)∧∀ (v19:Int), x6.ts.h v19=true→x6.ts.ge v19=x9.ts.ge v19)∧(x9.i≤pn∧FOk name file x9.hf x9.me x9.en x9.dn x9.ts)∧pn - x9.i < pn - y1.i))))))))∧(decide ((↑y1.i:Int) < v5)=false→true=true))) (by kernel_rfl) ?_
  intro v1 e1 v2 e2 t1 e3 t2 e4 v3 e5 t3 e6
  subst e1 e2 e5
  refine ⟨fun _ => rfl, fun q => ?_⟩
  obtain ⟨q, q3⟩ := ifor (e6.symm.trans q)
  obtain ⟨q, q2⟩ := ifor (e4.symm.trans q)
  obtain ⟨q0, q1⟩ := ifor (e3.symm.trans q)
  have f3 : file.length ≤ 3000 := by have := of_decide_eq_false q0; omega
  have hpn : pn ≤ 200 := by have := of_decide_eq_false q1; omega
  have n2 : name.length ≤ 32 := by have := of_decide_eq_false q3; omega
  have n1 : 1 ≤ name.length := by
    cases name with
    | nil => cases q2
    | cons a r => simp
  clear q q0 q1 q2 q3 e3 e4 e6
  intro b1 v4 e4
  subst e4
  try simp only [eq_self, true_and, and_true, Nat.le_refl, implies_true, forall_const, Bool.false_eq_true, Bool.true_eq_false, reduceCtorEq, false_imp_iff, true_imp_iff, Int.toNat_zero, Int.toNat_natCast, Nat.zero_lt_one, Int.le_refl, allGet]
  dsimp only [boolS, slN, strS, fldV, nth]
  simp only [rowB_eq, gapsE_eq]
  refine ⟨by omega, by omega, by omega, fun b2 => ⟨⟨0, rfl, Nat.zero_le _⟩, ?_, ?_⟩⟩
  · intro i hi v5 e5 q
    subst e5
    have q := of_decide_eq_true q
    have hi : i < pn := by omega
    refine ⟨by omega, by omega, hi, ⟨n1, n2⟩, f3, fun s1 hs1 t4 ht4 => ⟨fun q4 v6 e6 => .inl ⟨i + 1, e6.trans (l_succ (by omega)), hi, by omega⟩, fun q4 => ?_⟩⟩
    rw [ht4] at q4
    cases ho : partU (pf i).1 (pf i).2.1 (pf i).2.2.1 name file with
    | none => rw [ho] at q4; cases q4
    | some u =>
    rw [ho] at hs1
    have hs1 : s1 = putU u := hs1
    have hU : FU name file u := partU_FU ho
    clear ht4 q4 ho
    intro x' ex
    subst ex
    obtain ⟨ok, sm4⟩ := hU.ok n1 n2 f3
    obtain ⟨of1, of2, k3⟩ := hU.rng
    dsimp only
    rw [hs1, unB_putU ok sm4]
    refine ⟨goodB_putU ok sm4, k3, fun v7 e7 t5 e5 t6 e6 => ?_⟩
    have h5 : t5 = (false || decide (u.kind = 1)) := e5.trans (if_neg id)
    have h6 : t6 = (false || decide (u.kind = 3)) := e6.trans (if_neg id)
    clear e5 e6
    refine ⟨⟨(0, (fun _ => false)), rfl, fun _ _ => rfl, Nat.zero_le _, fun k => ?_⟩, ?_⟩
    · dsimp only
      by_cases r : u.offset ≤ (k : Int)
      · rw [decide_eq_false (show ¬ (k : Int) < u.offset + ((0 : Nat) : Int) by omega), Bool.and_false, Bool.or_false]
      · rw [decide_eq_false r, Bool.false_and, Bool.or_false]
    rintro ⟨k0, f⟩ ⟨hk0, hf1⟩ v8 e8
    dsimp only at hk0 hf1 ⊢
    subst e8
    refine ⟨fun q8 v9 e9 => ?_, fun q8 t7 e7 => ?_⟩
    · have q8 := of_decide_eq_true q8
      have e9 : v9 = u.offset + k0 := e9.trans (w64_id (by omega) (by omega))
      subst e9
      refine ⟨by omega, by omega, by omega, fun v10 e10 => ⟨(k0 + 1, fun k => if k = (u.offset + (k0 : Int)).toNat then true else f k), e10.trans (l_succ (by omega)), fun _ _ => rfl, ⟨by show k0 + 1 ≤ _; omega, fun k => ?_⟩, by show u.data.length - (k0 + 1) < u.data.length - k0; omega⟩⟩
      exact mark_step (hf0 := (fun _ => false)) of1 hf1 k
    have q8 := of_decide_eq_false q8
    have hk0 : k0 = u.data.length := by omega
    subst hk0
    have hfE : f = fUpd u (fun _ => false) := funext hf1
    clear hf1 q8
    refine ⟨⟨0, rfl, by cases t7 <;> rfl, Nat.zero_le _⟩, fun b5 hb5 v10 e10 => ?_⟩
    subst e10
    refine ⟨fun q5 => ⟨fun _ => by omega, fun _ => of_decide_eq_true q5, fun _ => by have := of_decide_eq_true q5; omega, fun t8 e8 v11 e11 => ?_⟩, fun q5 => ?_⟩
    · have q5 := of_decide_eq_true q5
      refine ⟨b5 + 1, e11.trans (l_succ (by omega)), ?_, by omega, by omega⟩
      show _ = (t7 && (allTo f b5 && f b5))
      rw [← Bool.and_assoc]
      exact ifw e8
    have q5 := of_decide_eq_false q5
    have hb5 : b5 = file.length := by omega
    subst hb5
    simp only [whole_eq e7]
    clear e7 q5
    refine ⟨⟨b1, name, file, u⟩, rfl, rfl, rfl, ⟨hU, n1, n2, f3⟩, fun y hy => ?_⟩
    have hy : tkP name file (fUpd u fun _ => false) (false || decide (u.kind = 1)) (false || decide (u.kind = 3)) false y := hy
    rw [← h5, ← h6, ← hfE] at hy
    obtain ⟨oc, hF, hnl, hend⟩ := hy
    clear h5 h6 hfE
    generalize hw : wholeB f t5 t6 file.length = w at hF hnl ⊢
    intro v11 e11 v12 e12 t9 e9 v13 e13 t10 e10 t11 h11
    subst e11 e12 e13
    have hn1 : y.nl ≤ 1 := by rw [hnl]; split <;> omega
    have h9 : t9 = false := by rw [e9, decide_eq_false (show ¬ ((y.nl : Nat) : Int) > 1 by omega)]; rfl
    have h10 : ((y.nl : Int) == 1) = t10 := by
      rw [e10, ifc, hnl]
      exact nl10
    have h11 : t11 = false := by rw [h11, h9, h10]; cases t10 <;> rfl
    clear e9 e10 h9 h10
    refine ⟨fun r => (by rw [h11] at r; cases r), fun _ v14 e14 => ⟨fun r => ?_, fun r => ?_, fun t12 e12 => ?_⟩⟩
    · subst e14; have r := eq_of_beq r; omega
    · subst e14; have r := eq_of_beq r; omega
    have h12 : t12 = false := by
      rw [e12]
      split
      · rename_i r
        subst e14
        have r := eq_of_beq r
        obtain ⟨g1, g2⟩ := hend (by omega)
        rw [g1, g2]
        simp
      · rfl
    clear e12 e14 h11
    refine ⟨fun r => (by rw [h12] at r; cases r), fun _ t13 e13 => ?_⟩
    have h13 : t13 = (false || w) := e13.trans (if_neg id)
    rw [← h13] at hF
    clear h12 e13 hend hnl
    refine ⟨⟨b1, y.ts, name, file, f, t5, t6, t13⟩, rfl, ?_, ?_, ?_, ?_, ?_, ⟨hF, f3⟩, fun z hz => ?_⟩
    · repeat' (first | with_reducible exact rfl | exact hF | exact hF.cap.1 | exact hF.tcap.1 | exact trivial | exact Nat.le_refl _ | exact Int.le_refl _ | exact Int.one_pos | exact Nat.one_pos | exact nil_eqv rfl rfl rfl | exact ⟨0, by decide, rfl, fun _ => rfl, fun _ _ => rfl⟩ | refine And.intro ?_ ?_ | intro _ | exact rfl)
    · repeat' (first | with_reducible exact rfl | exact hF | exact hF.cap.1 | exact hF.tcap.1 | exact trivial | exact Nat.le_refl _ | exact Int.le_refl _ | exact Int.one_pos | exact Nat.one_pos | exact nil_eqv rfl rfl rfl | exact ⟨0, by decide, rfl, fun _ => rfl, fun _ _ => rfl⟩ | refine And.intro ?_ ?_ | intro _ | exact rfl)
    · repeat' (first | with_reducible exact rfl | exact hF | exact hF.cap.1 | exact hF.tcap.1 | exact trivial | exact Nat.le_refl _ | exact Int.le_refl _ | exact Int.one_pos | exact Nat.one_pos | exact nil_eqv rfl rfl rfl | exact ⟨0, by decide, rfl, fun _ => rfl, fun _ _ => rfl⟩ | refine And.intro ?_ ?_ | intro _ | exact rfl)
    · repeat' (first | with_reducible exact rfl | exact hF | exact hF.cap.1 | exact hF.tcap.1 | exact trivial | exact Nat.le_refl _ | exact Int.le_refl _ | exact Int.one_pos | exact Nat.one_pos | exact nil_eqv rfl rfl rfl | exact ⟨0, by decide, rfl, fun _ => rfl, fun _ _ => rfl⟩ | refine And.intro ?_ ?_ | intro _ | exact rfl)
    · repeat' (first | with_reducible exact rfl | exact hF | exact hF.cap.1 | exact hF.tcap.1 | exact trivial | exact Nat.le_refl _ | exact Int.le_refl _ | exact Int.one_pos | exact Nat.one_pos | exact nil_eqv rfl rfl rfl | exact ⟨0, by decide, rfl, fun _ => rfl, fun _ _ => rfl⟩ | refine And.intro ?_ ?_ | intro _ | exact rfl)
    have hz : gpOk file f t6 t13 z.1 := hz.2
    obtain ⟨l, z2⟩ := z
    dsimp only at hz ⊢
    obtain ⟨hg, hs, hl⟩ := hz
    have hbd : ∀ j, 0 ≤ gapSum (l.take j) ∧ gapSum (l.take j) ≤ 3000 * 65537 := fun j => by
      obtain ⟨u1, u2⟩ := gapSum_le (l.take j) fun g hgm => by
        have := hg g (List.mem_of_mem_take hgm)
        exact ⟨this.1, this.2.1, by omega⟩
      have : (l.take j).length ≤ l.length := by rw [List.length_take]; omega
      omega
    refine ⟨⟨0, rfl, rfl, Nat.zero_le _⟩, fun b6 hb6 v15 e15 => ?_⟩
    subst e15
    refine ⟨fun r => ?_, fun r => ?_⟩
    · have r := of_decide_eq_true r
      have r : b6 < l.length := by omega
      obtain ⟨g1, g2, g3, g4⟩ := hg _ (getD_mem r)
      have hsn := gapSum_snoc l b6 r
      obtain ⟨u1, u2⟩ := hbd b6
      refine ⟨by omega, by omega, r, fun v16 e16 => ?_⟩
      have e16 : v16 = (l.getD b6 (0, 0)).1 := ifmx e16 g1
      subst e16
      refine ⟨⟨0, (Int.add_zero _).symm, (Int.add_zero _).symm, (show (l.getD b6 (0, 0)).1 + ((0 : Nat) : Int) ≤ (l.getD b6 (0, 0)).2 by omega)⟩, fun b7 hb7 => ⟨by omega, by omega, r, fun r2 v17 e17 => ?_, fun r2 v18 e18 => ?_⟩⟩
      · have r2 := of_decide_eq_true r2
        subst e17
        refine ⟨fun _ => by omega, fun _ => by omega, fun _ => by omega, fun t14 e14 => ?_⟩
        have h14 : t14 = false := by
          rw [e14, decide_eq_false (show ¬ (l.getD b6 (0, 0)).1 + (b7 : Int) ≥ ((file.length : Nat) : Int) by omega)]
          exact g4 _ (by omega) (by omega)
        refine ⟨fun r3 => (by rw [h14] at r3; cases r3), fun _ v18 e18 v19 e19 => ⟨b7 + 1, ?_, ?_, by omega, by omega⟩⟩
        · rw [e19, w64_id (by omega) (by omega)]; omega
        · rw [e18, w64_id (by omega) (by omega)]; omega
      · have r2 := of_decide_eq_false r2
        exact ⟨b6 + 1, e18.trans (l_succ (by omega)), by rw [hsn]; omega, by omega, by omega⟩
    have r := of_decide_eq_false r
    have hb6 : b6 = l.length := by omega
    subst hb6
    have hbd := hbd l.length
    rw [List.take_length] at hbd ⊢
    intro t14 e14
    have h14 : t14 = (t6 && !t13) := by rw [e14, ifc]
    clear e14 r
    refine ⟨fun r => ?_, fun r => ?_⟩
    · rw [h14, Bool.and_eq_true] at r
      have hS := hs r.1 (by simpa using r.2)
      refine ⟨⟨0, rfl, (Int.sub_zero _).symm, Nat.zero_le _⟩, fun b7 hb7 v17 e17 => ?_⟩
      subst e17
      have hun := unc_le f b7
      refine ⟨fun r2 => ?_, fun r2 => ⟨fun r3 => ?_, fun _ v20 e20 => ?_⟩⟩
      · have r2 := of_decide_eq_true r2
        refine ⟨by omega, by omega, by omega, fun r3 v18 e18 v19 e19 => ⟨b7 + 1, e19.trans (l_succ (by omega)), ?_, by omega, by omega⟩, fun r3 v19 e19 => ⟨b7 + 1, e19.trans (l_succ (by omega)), ?_, by omega, by omega⟩⟩
        · have r3 : f b7 = false := by simpa using r3
          rw [e18, w64_id (by omega) (by omega)]
          show _ = gapSum l - ((unc f b7 + (if f b7 = true then 0 else 1) : Nat) : Int)
          rw [r3, if_neg (by decide)]
          omega
        · have r3 : f b7 = true := by simpa using r3
          show _ = gapSum l - ((unc f b7 + (if f b7 = true then 0 else 1) : Nat) : Int)
          rw [r3, if_pos rfl]
          omega
      · have r2 := of_decide_eq_false r2
        have hb7 : b7 = file.length := by omega
        subst hb7
        rw [hS] at r3
        simp at r3
      · refine .inr ⟨⟨i + 1, t5, t6, t13, f, y.ts⟩, e20.trans (l_succ (by omega)), ?_⟩
        repeat' (first | with_reducible exact rfl | exact hF | exact hF.cap.1 | exact hF.tcap.1 | exact trivial | exact Nat.le_refl _ | exact Int.le_refl _ | exact Int.one_pos | exact Nat.one_pos | exact nil_eqv rfl rfl rfl | exact ⟨0, by decide, rfl, fun _ => rfl, fun _ _ => rfl⟩ | refine And.intro ?_ ?_ | intro _ | exact rfl)
        exact hi
    · intro v20 e20
      refine .inr ⟨⟨i + 1, t5, t6, t13, f, y.ts⟩, e20.trans (l_succ (by omega)), ?_⟩
      repeat' (first | with_reducible exact rfl | exact hF | exact hF.cap.1 | exact hF.tcap.1 | exact trivial | exact Nat.le_refl _ | exact Int.le_refl _ | exact Int.one_pos | exact Nat.one_pos | exact nil_eqv rfl rfl rfl | exact ⟨0, by decide, rfl, fun _ => rfl, fun _ _ => rfl⟩ | refine And.intro ?_ ?_ | intro _ | exact rfl)
      exact hi
  · rintro ⟨i, me, en, dn, hf, ts⟩ ⟨hi, hF0⟩ v5 e5 q
    dsimp only at hi hF0 q ⊢
    subst e5
    have q := of_decide_eq_true q
    have hi : i < pn := by omega
    refine ⟨by omega, by omega, hi, ⟨n1, n2⟩, f3, fun s1 hs1 t4 ht4 => ⟨fun q4 v6 e6 => ?_, fun q4 => ?_⟩⟩
    · refine ⟨⟨i + 1, me, en, dn, hf, ts⟩, e6.trans (l_succ (by omega)), ?_⟩
      repeat' (first | with_reducible exact rfl | exact hF0 | exact hF0.cap.1 | exact hF0.tcap.1 | exact trivial | exact Nat.le_refl _ | exact Int.le_refl _ | exact Int.one_pos | exact Nat.one_pos | exact nil_eqv rfl rfl rfl | exact ⟨0, by decide, rfl, fun _ => rfl, fun _ _ => rfl⟩ | refine And.intro ?_ ?_ | intro _ | exact rfl)
      all_goals (first | exact hi | (dsimp only; omega))
    rw [ht4] at q4
    cases ho : partU (pf i).1 (pf i).2.1 (pf i).2.2.1 name file with
    | none => rw [ho] at q4; cases q4
    | some u =>
    rw [ho] at hs1
    have hs1 : s1 = putU u := hs1
    have hU : FU name file u := partU_FU ho
    clear ht4 q4 ho
    intro x' ex
    subst ex
    obtain ⟨ok, sm4⟩ := hU.ok n1 n2 f3
    obtain ⟨of1, of2, k3⟩ := hU.rng
    dsimp only
    rw [hs1, unB_putU ok sm4]
    refine ⟨goodB_putU ok sm4, k3, fun v7 e7 t5 e5 t6 e6 => ?_⟩
    have h5 : t5 = (me || decide (u.kind = 1)) := by rw [e5, ifb]; rfl
    have h6 : t6 = (en || decide (u.kind = 3)) := by rw [e6, ifb]; rfl
    clear e5 e6
    refine ⟨⟨(0, hf), rfl, fun _ _ => rfl, Nat.zero_le _, fun k => ?_⟩, ?_⟩
    · dsimp only
      by_cases r : u.offset ≤ (k : Int)
      · rw [decide_eq_false (show ¬ (k : Int) < u.offset + ((0 : Nat) : Int) by omega), Bool.and_false, Bool.or_false]
      · rw [decide_eq_false r, Bool.false_and, Bool.or_false]
    rintro ⟨k0, f⟩ ⟨hk0, hf1⟩ v8 e8
    dsimp only at hk0 hf1 ⊢
    subst e8
    refine ⟨fun q8 v9 e9 => ?_, fun q8 t7 e7 => ?_⟩
    · have q8 := of_decide_eq_true q8
      have e9 : v9 = u.offset + k0 := e9.trans (w64_id (by omega) (by omega))
      subst e9
      refine ⟨by omega, by omega, by omega, fun v10 e10 => ⟨(k0 + 1, fun k => if k = (u.offset + (k0 : Int)).toNat then true else f k), e10.trans (l_succ (by omega)), fun _ _ => rfl, ⟨by show k0 + 1 ≤ _; omega, fun k => ?_⟩, by show u.data.length - (k0 + 1) < u.data.length - k0; omega⟩⟩
      exact mark_step (hf0 := hf) of1 hf1 k
    have q8 := of_decide_eq_false q8
    have hk0 : k0 = u.data.length := by omega
    subst hk0
    have hfE : f = fUpd u hf := funext hf1
    clear hf1 q8
    refine ⟨⟨0, rfl, by cases t7 <;> rfl, Nat.zero_le _⟩, fun b5 hb5 v10 e10 => ?_⟩
    subst e10
    refine ⟨fun q5 => ⟨fun _ => by omega, fun _ => of_decide_eq_true q5, fun _ => by have := of_decide_eq_true q5; omega, fun t8 e8 v11 e11 => ?_⟩, fun q5 => ?_⟩
    · have q5 := of_decide_eq_true q5
      refine ⟨b5 + 1, e11.trans (l_succ (by omega)), ?_, by omega, by omega⟩
      show _ = (t7 && (allTo f b5 && f b5))
      rw [← Bool.and_assoc]
      exact ifw e8
    have q5 := of_decide_eq_false q5
    have hb5 : b5 = file.length := by omega
    subst hb5
    simp only [whole_eq e7]
    clear e7 q5
    refine ⟨⟨b1, ts, name, file, hf, me, en, dn, u⟩, rfl, rfl, ?_, ?_, ?_, ?_, ?_, ⟨hF0, hU, n1, n2, f3⟩, fun y hy => ?_⟩
    · repeat' (first | with_reducible exact rfl | exact hF0 | exact hF0.cap.1 | exact hF0.tcap.1 | exact trivial | exact Nat.le_refl _ | exact Int.le_refl _ | exact Int.one_pos | exact Nat.one_pos | exact nil_eqv rfl rfl rfl | exact ⟨0, by decide, rfl, fun _ => rfl, fun _ _ => rfl⟩ | refine And.intro ?_ ?_ | intro _ | exact rfl)
    · repeat' (first | with_reducible exact rfl | exact hF0 | exact hF0.cap.1 | exact hF0.tcap.1 | exact trivial | exact Nat.le_refl _ | exact Int.le_refl _ | exact Int.one_pos | exact Nat.one_pos | exact nil_eqv rfl rfl rfl | exact ⟨0, by decide, rfl, fun _ => rfl, fun _ _ => rfl⟩ | refine And.intro ?_ ?_ | intro _ | exact rfl)
    · repeat' (first | with_reducible exact rfl | exact hF0 | exact hF0.cap.1 | exact hF0.tcap.1 | exact trivial | exact Nat.le_refl _ | exact Int.le_refl _ | exact Int.one_pos | exact Nat.one_pos | exact nil_eqv rfl rfl rfl | exact ⟨0, by decide, rfl, fun _ => rfl, fun _ _ => rfl⟩ | refine And.intro ?_ ?_ | intro _ | exact rfl)
    · repeat' (first | with_reducible exact rfl | exact hF0 | exact hF0.cap.1 | exact hF0.tcap.1 | exact trivial | exact Nat.le_refl _ | exact Int.le_refl _ | exact Int.one_pos | exact Nat.one_pos | exact nil_eqv rfl rfl rfl | exact ⟨0, by decide, rfl, fun _ => rfl, fun _ _ => rfl⟩ | refine And.intro ?_ ?_ | intro _ | exact rfl)
    · repeat' (first | with_reducible exact rfl | exact hF0 | exact hF0.cap.1 | exact hF0.tcap.1 | exact trivial | exact Nat.le_refl _ | exact Int.le_refl _ | exact Int.one_pos | exact Nat.one_pos | exact nil_eqv rfl rfl rfl | exact ⟨0, by decide, rfl, fun _ => rfl, fun _ _ => rfl⟩ | refine And.intro ?_ ?_ | intro _ | exact rfl)
    have hy : tkP name file (fUpd u hf) (me || decide (u.kind = 1)) (en || decide (u.kind = 3)) dn y := hy
    rw [← h5, ← h6, ← hfE] at hy
    obtain ⟨oc, hF, hnl, hend⟩ := hy
    clear h5 h6 hfE
    generalize hw : wholeB f t5 t6 file.length = w at hF hnl ⊢
    intro v11 e11 v12 e12 t9 e9 v13 e13 t10 e10 t11 h11
    subst e11 e12 e13
    have hn1 : y.nl ≤ 1 := by rw [hnl]; split <;> omega
    have h9 : t9 = false := by rw [e9, decide_eq_false (show ¬ ((y.nl : Nat) : Int) > 1 by omega)]; rfl
    have h10 : ((y.nl : Int) == 1) = t10 := by
      rw [e10, ifc, hnl]
      exact nl10
    have h11 : t11 = false := by rw [h11, h9, h10]; cases t10 <;> rfl
    clear e9 e10 h9 h10
    refine ⟨fun r => (by rw [h11] at r; cases r), fun _ v14 e14 => ⟨fun r => ?_, fun r => ?_, fun t12 e12 => ?_⟩⟩
    · subst e14; have r := eq_of_beq r; omega
    · subst e14; have r := eq_of_beq r; omega
    have h12 : t12 = false := by
      rw [e12]
      split
      · rename_i r
        subst e14
        have r := eq_of_beq r
        obtain ⟨g1, g2⟩ := hend (by omega)
        rw [g1, g2]
        simp
      · rfl
    clear e12 e14 h11
    refine ⟨fun r => (by rw [h12] at r; cases r), fun _ t13 e13 => ?_⟩
    have h13 : t13 = (dn || w) := by rw [e13, ifb]
    rw [← h13] at hF
    clear h12 e13 hend hnl
    refine ⟨⟨b1, y.ts, name, file, f, t5, t6, t13⟩, rfl, ?_, ?_, ?_, ?_, ?_, ⟨hF, f3⟩, fun z hz => ?_⟩
    · repeat' (first | with_reducible exact rfl | exact hF | exact hF.cap.1 | exact hF.tcap.1 | exact trivial | exact Nat.le_refl _ | exact Int.le_refl _ | exact Int.one_pos | exact Nat.one_pos | exact nil_eqv rfl rfl rfl | exact ⟨0, by decide, rfl, fun _ => rfl, fun _ _ => rfl⟩ | refine And.intro ?_ ?_ | intro _ | exact rfl)
    · repeat' (first | with_reducible exact rfl | exact hF | exact hF.cap.1 | exact hF.tcap.1 | exact trivial | exact Nat.le_refl _ | exact Int.le_refl _ | exact Int.one_pos | exact Nat.one_pos | exact nil_eqv rfl rfl rfl | exact ⟨0, by decide, rfl, fun _ => rfl, fun _ _ => rfl⟩ | refine And.intro ?_ ?_ | intro _ | exact rfl)
    · repeat' (first | with_reducible exact rfl | exact hF | exact hF.cap.1 | exact hF.tcap.1 | exact trivial | exact Nat.le_refl _ | exact Int.le_refl _ | exact Int.one_pos | exact Nat.one_pos | exact nil_eqv rfl rfl rfl | exact ⟨0, by decide, rfl, fun _ => rfl, fun _ _ => rfl⟩ | refine And.intro ?_ ?_ | intro _ | exact rfl)
    · repeat' (first | with_reducible exact rfl | exact hF | exact hF.cap.1 | exact hF.tcap.1 | exact trivial | exact Nat.le_refl _ | exact Int.le_refl _ | exact Int.one_pos | exact Nat.one_pos | exact nil_eqv rfl rfl rfl | exact ⟨0, by decide, rfl, fun _ => rfl, fun _ _ => rfl⟩ | refine And.intro ?_ ?_ | intro _ | exact rfl)
    · repeat' (first | with_reducible exact rfl | exact hF | exact hF.cap.1 | exact hF.tcap.1 | exact trivial | exact Nat.le_refl _ | exact Int.le_refl _ | exact Int.one_pos | exact Nat.one_pos | exact nil_eqv rfl rfl rfl | exact ⟨0, by decide, rfl, fun _ => rfl, fun _ _ => rfl⟩ | refine And.intro ?_ ?_ | intro _ | exact rfl)
    have hz : gpOk file f t6 t13 z.1 := hz.2
    obtain ⟨l, z2⟩ := z
    dsimp only at hz ⊢
    obtain ⟨hg, hs, hl⟩ := hz
    have hbd : ∀ j, 0 ≤ gapSum (l.take j) ∧ gapSum (l.take j) ≤ 3000 * 65537 := fun j => by
      obtain ⟨u1, u2⟩ := gapSum_le (l.take j) fun g hgm => by
        have := hg g (List.mem_of_mem_take hgm)
        exact ⟨this.1, this.2.1, by omega⟩
      have : (l.take j).length ≤ l.length := by rw [List.length_take]; omega
      omega
    refine ⟨⟨0, rfl, rfl, Nat.zero_le _⟩, fun b6 hb6 v15 e15 => ?_⟩
    subst e15
    refine ⟨fun r => ?_, fun r => ?_⟩
    · have r := of_decide_eq_true r
      have r : b6 < l.length := by omega
      obtain ⟨g1, g2, g3, g4⟩ := hg _ (getD_mem r)
      have hsn := gapSum_snoc l b6 r
      obtain ⟨u1, u2⟩ := hbd b6
      refine ⟨by omega, by omega, r, fun v16 e16 => ?_⟩
      have e16 : v16 = (l.getD b6 (0, 0)).1 := ifmx e16 g1
      subst e16
      refine ⟨⟨0, (Int.add_zero _).symm, (Int.add_zero _).symm, (show (l.getD b6 (0, 0)).1 + ((0 : Nat) : Int) ≤ (l.getD b6 (0, 0)).2 by omega)⟩, fun b7 hb7 => ⟨by omega, by omega, r, fun r2 v17 e17 => ?_, fun r2 v18 e18 => ?_⟩⟩
      · have r2 := of_decide_eq_true r2
        subst e17
        refine ⟨fun _ => by omega, fun _ => by omega, fun _ => by omega, fun t14 e14 => ?_⟩
        have h14 : t14 = false := by
          rw [e14, decide_eq_false (show ¬ (l.getD b6 (0, 0)).1 + (b7 : Int) ≥ ((file.length : Nat) : Int) by omega)]
          exact g4 _ (by omega) (by omega)
        refine ⟨fun r3 => (by rw [h14] at r3; cases r3), fun _ v18 e18 v19 e19 => ⟨b7 + 1, ?_, ?_, by omega, by omega⟩⟩
        · rw [e19, w64_id (by omega) (by omega)]; omega
        · rw [e18, w64_id (by omega) (by omega)]; omega
      · have r2 := of_decide_eq_false r2
        exact ⟨b6 + 1, e18.trans (l_succ (by omega)), by rw [hsn]; omega, by omega, by omega⟩
    have r := of_decide_eq_false r
    have hb6 : b6 = l.length := by omega
    subst hb6
    have hbd := hbd l.length
    rw [List.take_length] at hbd ⊢
    intro t14 e14
    have h14 : t14 = (t6 && !t13) := by rw [e14, ifc]
    clear e14 r
    refine ⟨fun r => ?_, fun r => ?_⟩
    · rw [h14, Bool.and_eq_true] at r
      have hS := hs r.1 (by simpa using r.2)
      refine ⟨⟨0, rfl, (Int.sub_zero _).symm, Nat.zero_le _⟩, fun b7 hb7 v17 e17 => ?_⟩
      subst e17
      have hun := unc_le f b7
      refine ⟨fun r2 => ?_, fun r2 => ⟨fun r3 => ?_, fun _ v20 e20 => ?_⟩⟩
      · have r2 := of_decide_eq_true r2
        refine ⟨by omega, by omega, by omega, fun r3 v18 e18 v19 e19 => ⟨b7 + 1, e19.trans (l_succ (by omega)), ?_, by omega, by omega⟩, fun r3 v19 e19 => ⟨b7 + 1, e19.trans (l_succ (by omega)), ?_, by omega, by omega⟩⟩
        · have r3 : f b7 = false := by simpa using r3
          rw [e18, w64_id (by omega) (by omega)]
          show _ = gapSum l - ((unc f b7 + (if f b7 = true then 0 else 1) : Nat) : Int)
          rw [r3, if_neg (by decide)]
          omega
        · have r3 : f b7 = true := by simpa using r3
          show _ = gapSum l - ((unc f b7 + (if f b7 = true then 0 else 1) : Nat) : Int)
          rw [r3, if_pos rfl]
          omega
      · have r2 := of_decide_eq_false r2
        have hb7 : b7 = file.length := by omega
        subst hb7
        rw [hS] at r3
        simp at r3
      · refine ⟨⟨i + 1, t5, t6, t13, f, y.ts⟩, e20.trans (l_succ (by omega)), ?_⟩
        repeat' (first | with_reducible exact rfl | exact hF | exact hF.cap.1 | exact hF.tcap.1 | exact trivial | exact Nat.le_refl _ | exact Int.le_refl _ | exact Int.one_pos | exact Nat.one_pos | exact nil_eqv rfl rfl rfl | exact ⟨0, by decide, rfl, fun _ => rfl, fun _ _ => rfl⟩ | refine And.intro ?_ ?_ | intro _ | exact rfl)
        all_goals (first | exact hi | (dsimp only; omega))
    · intro v20 e20
      refine ⟨⟨i + 1, t5, t6, t13, f, y.ts⟩, e20.trans (l_succ (by omega)), ?_⟩
      repeat' (first | with_reducible exact rfl | exact hF | exact hF.cap.1 | exact hF.tcap.1 | exact trivial | exact Nat.le_refl _ | exact Int.le_refl _ | exact Int.one_pos | exact Nat.one_pos | exact nil_eqv rfl rfl rfl | exact ⟨0, by decide, rfl, fun _ => rfl, fun _ _ => rfl⟩ | refine And.intro ?_ ?_ | intro _ | exact rfl)
      all_goals (first | exact hi | (dsimp only; omega))
end Rc
