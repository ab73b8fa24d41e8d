/-
  OWN WORK. Receiver: the law ReceiverFile: what is said of its loops; the walk.
-/
import Derived.Test.YtjhcndahjhkahaaGreatLP
import Derived.Test.YtjhcndahjhkahaaGreatLT
import Derived.Test.YtjhcndahjhkahaaGreatLV
namespace Rc
open Go Go.Proofs Eng
set_option linter.unusedVariables false
set_option linter.unusedSimpArgs false
set_option maxRecDepth 100000
set_option maxHeartbeats 4000000
/-! ### Get of a unit of the file -/
def uMeta (u : U) : SV := .agg [.int .i64 1, .int .i64 3, .str u.name, .int .i64 u.size, .int .u32 0, .int .i64 0, .str [], .int .i64 0, .int .i64 0, .bool false, nilSlice]
def uData (u : U) : SV := .agg [.int .i64 2, .int .i64 3, .str [], .int .i64 0, .int .u32 0, .int .i64 u.offset, .str u.data, .int .i64 0, .int .i64 0, .bool false, nilSlice]
def uEnd (u : U) : SV := .agg [.int .i64 3, .int .i64 3, .str [], .int .i64 u.size, .int .u32 u.sum, .int .i64 0, .str [], .int .i64 0, .int .i64 0, .bool false, nilSlice]
/-- The three kinds of units of a file. -/
def fileU (u : U) : Prop := u = ⟨1, 3, u.name, u.size, 0, 0, [], 0, 0, false, []⟩ ∨ u = ⟨2, 3, [], 0, 0, u.offset, u.data, 0, 0, false, []⟩ ∨ u = ⟨3, 3, [], u.size, u.sum, 0, [], 0, 0, false, []⟩
noncomputable def getF (args : List SV) (H : Hp) (nx : Nat) (K : SV → Hp → Nat → Prop) : Prop := match args with
  | [.str l] => (goodB l ∧ fileU (unB l)) ∧ ((unB l).kind = 1 → K (.tup [uMeta (unB l), .int .i64 0]) H nx) ∧ ((unB l).kind = 2 → K (.tup [uData (unB l), .int .i64 0]) H nx) ∧ ((unB l).kind = 3 → K (.tup [uEnd (unB l), .int .i64 0]) H nx)
  | _ => False
theorem den_agg (l : List SV) : (SV.agg l).den = .agg (SV.flatL l).toArray := rfl
theorem Sat.tail {C : Ctx} {e : Ent} {H : Hp} {w : World} (h : Sat C (e :: H) w) : Sat C H w := ⟨h.kept, fun x hx => h.ents x (List.mem_cons_of_mem _ hx), (List.pairwise_cons.1 h.apart).2⟩
theorem getF_ok : EcOk Tryz.prog 29 getF := by
  intro args H nx K hc hw
  unfold getF at hc
  split at hc
  · rename_i l
    obtain ⟨⟨hg, hf⟩, k1, k2, k3⟩ := hc
    obtain ⟨g1, g2⟩ := get_ok [.str l] H nx (fun r H' _ => ∃ y : RowY, (unB l).gaps.length = 0 ∧ y.2.2 = 0 ∧ r = .tup [uSV (unB l) nx y, .int .i64 0] ∧ H' = uRow (unB l) nx y :: H) (by
      intro x' hx
      subst hx
      refine ⟨hg, fun y ⟨q1, q2, q3⟩ => ?_⟩
      have hz : (unB l).gaps.length = 0 := by rcases hf with q | q | q <;> rw [q] <;> rfl
      refine ⟨y, hz, q3 hz, rfl, ?_⟩
      show _ :: Hp.minus [] H = _
      rw [minus_none]
      rfl) hw
    refine ⟨g1, fun C w hS => (g2 C w hS).mono ?_⟩
    rintro e w' ⟨r, H', nx', ⟨y, z1, z2, rfl, rfl⟩, r2, rfl, r4⟩
    have hS' := Sat.tail r4
    have hw' := r2
    have hden : ∀ v : SV, v.den = (uSV (unB l) nx y).den → v.wf → ∀ (hk : K (.tup [v, .int .i64 0]) H nx), ∃ r H' nx', K r H' nx' ∧ r.wf ∧ Ending.returned (SV.tup [uSV (unB l) nx y, SV.int .i64 0]).den = .returned r.den ∧ Sat C H' w' := fun v hv hvw hk =>
      ⟨_, _, _, hk, ⟨hvw, trivial, trivial⟩, by simp only [SV.den, SV.denL, hv], hS'⟩
    have hflat : SV.flat (.slice nx y.1 y.2.1 [] 2 0 (unB l).gaps.length y.2.2 (decide ((unB l).gaps.length = 0))) = nilSlice.flat := by
      rw [z1, z2]; rfl
    generalize unB l = u at hf k1 k2 k3 hden hflat r2
    rcases u with ⟨k, nr, nm, sz, sm, of, da, wy, o, me, g⟩
    have hw2 := r2.1
    rcases hf with q | q | q
    · simp only [U.mk.injEq] at q
      obtain ⟨rfl, rfl, -, -, rfl, rfl, rfl, rfl, rfl, rfl, rfl⟩ := q
      exact hden (uMeta _) (by rw [uMeta, uSV, den_agg, den_agg]; simp only [SV.flatL, hflat]) ⟨trivial, rfl, trivial, rfl, hw2.2.2.2.2.1, rfl, trivial, rfl, trivial, rfl, trivial, rfl, by show 0 ≤ 9223372036854775807; decide, rfl, trivial, rfl, trivial, rfl, trivial, rfl, ⟨fun _ => ⟨rfl, rfl⟩, Nat.le_refl _, by decide⟩, rfl, trivial⟩ (k1 rfl)
    · simp only [U.mk.injEq] at q
      obtain ⟨rfl, rfl, rfl, rfl, rfl, -, -, rfl, rfl, rfl, rfl⟩ := q
      exact hden (uData _) (by rw [uData, uSV, den_agg, den_agg]; simp only [SV.flatL, hflat]) ⟨trivial, rfl, trivial, rfl, by show 0 ≤ 9223372036854775807; decide, rfl, trivial, rfl, trivial, rfl, trivial, rfl, hw2.2.2.2.2.2.2.2.2.2.2.2.2.1, rfl, trivial, rfl, trivial, rfl, trivial, rfl, ⟨fun _ => ⟨rfl, rfl⟩, Nat.le_refl _, by decide⟩, rfl, trivial⟩ (k2 rfl)
    · simp only [U.mk.injEq] at q
      obtain ⟨rfl, rfl, rfl, -, -, rfl, rfl, rfl, rfl, rfl, rfl⟩ := q
      exact hden (uEnd _) (by rw [uEnd, uSV, den_agg, den_agg]; simp only [SV.flatL, hflat]) ⟨trivial, rfl, trivial, rfl, by show 0 ≤ 9223372036854775807; decide, rfl, trivial, rfl, trivial, rfl, trivial, rfl, by show 0 ≤ 9223372036854775807; decide, rfl, trivial, rfl, trivial, rfl, trivial, rfl, ⟨fun _ => ⟨rfl, rfl⟩, Nat.le_refl _, by decide⟩, rfl, trivial⟩ (k3 rfl)
  · exact hc.elim
/-! ### reading what stands in memory -/
def rowI (e : Ent) (k : Nat) : Int := intOf (e.get k)
def rowB (e : Ent) (k : Nat) : Bool := match e.get k with
  | .bool b => b
  | _ => false
def hasE (e : Ent) : Int → Bool := match e.get 0 with
  | .mobj h _ => h
  | _ => fun _ => false
def getE (e : Ent) (k : Int) : Int := match e.get 0 with
  | .mobj _ g => intOf (g k)
  | _ => 0
def strS : SV → List UInt8
  | .str l => l
  | _ => []
def boolS : SV → Bool
  | .bool b => b
  | _ => false
def fldV (v : SV) (k : Nat) : SV := match v with
  | .agg l => (match nth l k with
    | some u => u
    | none => .bool false)
  | _ => .bool false
def setF (v : SV) (k : Nat) (u : SV) : SV := match v with
  | .agg l => .agg (setNth l k u)
  | v => v
def mapTag : SV → Nat
  | .map g _ _ => g
  | _ => 0
def slTag : SV → Nat
  | .slice g _ _ _ _ _ _ _ _ => g
  | _ => 0
/-! ### arrive -/
abbrev TxX := Nat × Nat × Nat × Nat × (Nat → Int)
abbrev txE (x : TxX) : Ent := ⟨503, x.1, x.2.1, 1, x.2.2.1, fun k => .int .u8 (x.2.2.2.2 k), true, false, x.2.2.2.1, 5, decide (x.2.2.1 = 0), none⟩
abbrev txS (x : TxX) : SV := .slice 503 x.1 x.2.1 [] 1 0 x.2.2.1 x.2.2.2.1 (decide (x.2.2.1 = 0))
def inv4 (to : Int) (tl : Nat) (X : Ent) (x : TxX) : Prop := (x.2.2.1 : Int) = (if to > tl then to else tl) ∧ (∀ k, k < tl → x.2.2.2.2 k = rowI X k) ∧ x.2.2.1 ≤ x.2.2.2.1 ∧ x.2.2.2.1 ≤ 9223372036854775807 ∧ (x.2.2.1 = 0 → x.2.2.2.1 = 0)
/-- Behind the growing of the text. -/
def joinA4 (fr : Fr) (H : Hp) : LA := ⟨4, TxX, [0], fun _ => [slotV fr 0], [ptrTag (slotV fr 0), 503],
  fun x => [{ entG H (ptrTag (slotV fr 0)) with get := fun _ => setF ((entG H (ptrTag (slotV fr 0))).get 0) 8 (txS x) }, txE x],
  fun x => inv4 (intOf (slotV fr 6)) (slN (fldV ((entG H (ptrTag (slotV fr 0))).get 0) 8)) (entG H 503) x, fun _ => 0⟩
structure A7 where
  i : Nat
  next : Int
  from_ : Int
  end_ : Int
  f : Nat → Int
  h : Int → Bool
def inv7 (X M : Ent) (l : List Int) (at_ to : Int) (data : List UInt8) (x : A7) : Prop :=
  x.i ≤ l.length ∧ Uni (hasE M) (getE M) at_ to x.from_ x.end_ (fun z => z ∈ l.take x.i) ∧ (∀ z, x.h z = (hasE M z && !(decide (z ∈ l.take x.i) && tch (hasE M) (getE M) at_ to z))) ∧ at_ ≤ x.next ∧
  (∀ k : Nat, x.f k = rowI X k ∨ (at_ ≤ k ∧ (k : Int) < to ∧ x.f k = (data.getD ((k : Int) - at_).toNat 0).toNat)) ∧ (∀ k : Nat, at_ ≤ k → (k : Int) < x.next → (k : Int) < to → x.f k = (data.getD ((k : Int) - at_).toNat 0).toNat ∨ Cov (hasE M) (getE M) k)
/-- The loop over the runs. -/
def loopA7 (fr : Fr) (H : Hp) : LA := ⟨7, A7, [42, 8, 9, 10], fun x => [.int .i64 (x.i : Nat), .int .i64 x.next, .int .i64 x.from_, .int .i64 x.end_], [503, mapTag (fldV ((entG H (ptrTag (slotV fr 0))).get 0) 9)],
  fun x => [{ entG H 503 with get := fun k => .int .u8 (x.f k) }, { entG H (mapTag (fldV ((entG H (ptrTag (slotV fr 0))).get 0) 9)) with get := fun _ => .mobj x.h (fun k => .int .i64 (getE (entG H (mapTag (fldV ((entG H (ptrTag (slotV fr 0))).get 0) 9))) k)) }],
  fun x => inv7 (entG H 503) (entG H (mapTag (fldV ((entG H (ptrTag (slotV fr 0))).get 0) 9))) (lstE (entG H (slTag (slotV fr 40))) (slotV fr 40)) (intOf (slotV fr 1)) (intOf (slotV fr 6)) (strS (slotV fr 2)) x,
  fun x => slN (slotV fr 40) - x.i⟩
def inv19 (X : Ent) (at_ next to : Int) (data : List UInt8) (f : Nat → Int) : Prop := ∀ k : Nat, f k = if next ≤ k ∧ (k : Int) < to then ((data.getD ((k : Int) - at_).toNat 0).toNat : Int) else rowI X k
/-- Behind the last copy. -/
def joinA19 (fr : Fr) (H : Hp) : LA := ⟨19, Nat → Int, [0], fun _ => [slotV fr 0], [503], fun f => [{ entG H 503 with get := fun k => .int .u8 (f k) }],
  fun f => inv19 (entG H 503) (intOf (slotV fr 1)) (intOf (slotV fr 8)) (intOf (slotV fr 6)) (strS (slotV fr 2)) f, fun _ => 0⟩
/-! ### the law's loops -/
/-- A transaction. -/
structure TS where
  bT : Nat
  bO : Nat
  oO : Nat
  cO : Nat
  ph : Int
  tme : Bool
  ten : Bool
  nm : List UInt8
  sz : Int
  la : Int
  sm : Int
  tx : TxX
  bm : Nat
  h : Int → Bool
  ge : Int → Int
  tr : Int
  wy : Int
  cl : Int
  du : Int
abbrev tsT (x : TS) : SV := .agg [.int .i64 3, .int .i64 x.ph, .bool x.tme, .bool x.ten, .str x.nm, .int .i64 x.sz, .int .i64 x.la, .int .u32 x.sm, txS x.tx, .map 504 x.bm 0, .int .i64 x.tr, .int .i64 0, .int .i64 x.wy, .int .i64 x.cl, .int .i64 x.du]
abbrev tsEnts (r : Ent) (x : TS) : Hp := [{ r with get := fun _ => .agg [.int .i64 10, .int .i64 3, .bool false, .slice 501 x.bO x.oO [] 1 0 1 x.cO false, nilSlice] },
  ⟨501, x.bO, x.oO, 1, 1, fun _ => .ptr 502 x.bT 0 [.elt 0 15], true, false, x.cO, 76, false, none⟩,
  ⟨502, x.bT, 0, 15, 1, fun _ => tsT x, true, true, 1, 82, false, none⟩, txE x.tx,
  ⟨504, x.bm, 0, 0, 1, fun _ => .mobj x.h (fun k => .int .i64 (x.ge k)), true, false, 1, 80, false, some fun _ => (x.bm, 0)⟩]
/-- What is said of the transaction: hf: which bytes have come; me, en: metadata and end have; dn: it is done. -/
structure FOk (name file : List UInt8) (hf : Nat → Bool) (me en dn : Bool) (x : TS) : Prop where
  cap : 1 ≤ x.cO ∧ x.cO ≤ 9223372036854775807
  tcap : x.tx.2.2.1 ≤ x.tx.2.2.2.1 ∧ x.tx.2.2.2.1 ≤ 9223372036854775807 ∧ (x.tx.2.2.1 = 0 → x.tx.2.2.2.1 = 0)
  done : dn = true → x.ph = 3 ∧ me = true ∧ en = true ∧ ∀ k, k < file.length → hf k = true
  mt : dn = false → x.tme = me ∧ (me = true → x.nm = name ∧ x.sz = file.length)
  ed : dn = false → x.ten = en ∧ (en = true → x.la = file.length ∧ x.sm = crc32 file) ∧ x.ph = if en = true then 2 else 1
  runs : dn = false → Runs x.tx.2.2.1 x.h x.ge ∧ x.tx.2.2.1 ≤ file.length
  cov : dn = false → ∀ k : Nat, k < file.length → (hf k = true ↔ Cov x.h x.ge k)
  txt : dn = false → ∀ k : Nat, k < file.length → hf k = true → x.tx.2.2.2.2 k = (file.getD k 0).toNat
  part : dn = false → ¬ (me = true ∧ en = true ∧ ∀ k, k < file.length → hf k = true)
abbrev hasR (e : Ent) (f : Nat → Bool) : Ent := { e with get := fun k => .bool (f k) }
/-- No unit has come. -/
def stage1 (n : Nat) (fr : Fr) (H : Hp) : LA := ⟨11, Nat, [13, 10, 11, 12, 7, 9], fun i => [.int .i64 (i : Nat), .bool false, .bool false, .bool false, slotV fr 7, slotV fr 9], [ptrTag (slotV fr 7), slTag (slotV fr 9)],
  fun i => [entG H (ptrTag (slotV fr 7)), hasR (entG H (slTag (slotV fr 9))) fun _ => false], fun i => i ≤ n, fun i => n - i⟩
structure FS where
  i : Nat
  me : Bool
  en : Bool
  dn : Bool
  hf : Nat → Bool
  ts : TS
def stage2 (name file : List UInt8) (n : Nat) (fr : Fr) (H : Hp) : LA := ⟨11, FS, [13, 10, 11, 12, 7, 9], fun x => [.int .i64 (x.i : Nat), .bool x.me, .bool x.en, .bool x.dn, slotV fr 7, slotV fr 9], [ptrTag (slotV fr 7), slTag (slotV fr 9), 208017],
  fun x => hasR (entG H (slTag (slotV fr 9))) x.hf :: tsEnts (entG H (ptrTag (slotV fr 7))) x.ts, fun x => x.i ≤ n ∧ FOk name file x.hf x.me x.en x.dn x.ts, fun x => n - x.i⟩
/-- The bytes of a unit are marked. -/
def loop18 (fr : Fr) (H : Hp) : LA := ⟨18, Nat × (Nat → Bool), [18, 9], fun x => [.int .i64 (x.1 : Nat), slotV fr 9], [slTag (slotV fr 9)], fun x => [hasR (entG H (slTag (slotV fr 9))) x.2],
  fun x => x.1 ≤ (strS (fldV ((entG H (ptrTag (slotV fr 16))).get 0) 6)).length ∧ ∀ k : Nat, x.2 k = (rowB (entG H (slTag (slotV fr 9))) k || (decide (intOf (fldV ((entG H (ptrTag (slotV fr 16))).get 0) 5) ≤ k) && decide ((k : Int) < intOf (fldV ((entG H (ptrTag (slotV fr 16))).get 0) 5) + x.1))),
  fun x => (strS (fldV ((entG H (ptrTag (slotV fr 16))).get 0) 6)).length - x.1⟩
def allTo (f : Nat → Bool) : Nat → Bool
  | 0 => true
  | k + 1 => allTo f k && f k
/-- Is it whole? -/
def loop23 (fr : Fr) (H : Hp) : LA := .mk 23 Nat [20, 19] (fun k => [.int .i64 (k : Nat), .bool (boolS (slotV fr 19) && allTo (rowB (entG H (slTag (slotV fr 9)))) k)]) [] (fun _ => []) (fun k => k ≤ (entG H (slTag (slotV fr 9))).n) (fun k => (entG H (slTag (slotV fr 9))).n - k)
/-- Behind Take. -/
structure J27 where
  ts : TS
  nl : Nat
  bl : Nat
  ol : Nat
  cl : Nat
  enm : List UInt8
  efl : List UInt8
/-- Behind Gaps. -/
abbrev GlX := List (Int × Int) × RowK
def gapAt2 (e : Ent) (j : Nat) : Int × Int := (intOf (fldV (e.get j) 0), intOf (fldV (e.get j) 1))
def gapsE (e : Ent) (n : Nat) : List (Int × Int) := (List.range n).map (gapAt2 e)
/-- The gaps' lengths are summed. -/
def loop35 (fr : Fr) (H : Hp) : LA := .mk 35 Nat [25, 24] (fun j => [.int .i64 (j : Nat), .int .i64 (gapSum ((gapsE (entG H 520) (slN (slotV fr 23))).take j))]) [] (fun _ => []) (fun j => j ≤ slN (slotV fr 23)) (fun j => slN (slotV fr 23) - j)
def loop38 (fr : Fr) (H : Hp) : LA := .mk 38 Nat [26, 24] (fun d => [.int .i64 (intOf (slotV fr 26) + (d : Nat)), .int .i64 (intOf (slotV fr 24) + (d : Nat))]) [] (fun _ => [])
  (fun d => intOf (slotV fr 26) + (d : Nat) ≤ (gapAt2 (entG H 520) (intOf (slotV fr 25)).toNat).2) (fun d => ((gapAt2 (entG H 520) (intOf (slotV fr 25)).toNat).2 - intOf (slotV fr 26)).toNat - d)
def loop45 (fr : Fr) (H : Hp) : LA := .mk 45 Nat [27, 24] (fun k => [.int .i64 (k : Nat), .int .i64 (intOf (slotV fr 24) - (unc (rowB (entG H (slTag (slotV fr 9)))) k : Nat))]) [] (fun _ => []) (fun k => k ≤ (entG H (slTag (slotV fr 9))).n) (fun k => (entG H (slTag (slotV fr 9))).n - k)

abbrev aFile : ArgL (List UInt8 × List UInt8 × RowD (Int × Int × Int × Unit) × Unit) := .cons (.elt .str) (.cons (.elt .str) (.cons (.row (.agg (.cons (.int .i64) (.cons (.int .i64) (.cons (.int .i64) .nil))))) .nil))
abbrev FileIn (x : List UInt8 × List UInt8 × RowD (Int × Int × Int × Unit) × Unit) : Prop := x.1.length ≤ 140737488351232 ∧ x.2.1.length ≤ 140737488351232 ∧ (x.2.2.1.n ≤ x.2.2.1.c ∧ x.2.2.1.c * 24 ≤ 140737488351232 ∧ ∀ i, i < x.2.2.1.n → inKind .i64 (x.2.2.1.f i).1 ∧ inKind .i64 (x.2.2.1.f i).2.1 ∧ inKind .i64 (x.2.2.1.f i).2.2.1 ∧ True) ∧ True
end Rc
