/-
  OWN WORK. Receiver: what a unit of the file does to what is said of the transaction.
-/
import Derived.Test.YtjhcndahjhkahaaGreatLE
namespace Rc
open Go Go.Proofs Eng
set_option linter.unusedVariables false
set_option linter.unusedSimpArgs false
/-- A unit that was made of the file. -/
def FU (name file : List UInt8) (u : U) : Prop :=
  u = ⟨1, 3, name, file.length, 0, 0, [], 0, 0, false, []⟩ ∨ u = ⟨3, 3, [], file.length, crc32 file, 0, [], 0, 0, false, []⟩ ∨
  ∃ a b : Nat, a < b ∧ b ≤ file.length ∧ b ≤ a + 160 ∧ u = ⟨2, 3, [], 0, 0, a, (file.take b).drop a, 0, 0, false, []⟩
theorem partU_FU {kd fr sz : Int} {name file : List UInt8} {u : U} (h : partU kd fr sz name file = some u) : FU name file u := by
  unfold partU at h
  split at h
  · injection h with h; exact .inl h.symm
  split at h
  · injection h with h; exact .inr (.inl h.symm)
  split at h
  · cases h
  · rename_i hf
    injection h with h
    obtain ⟨p1, p2, p3⟩ := part_facts (fr := fr) (sz := sz) hf
    exact .inr (.inr ⟨_, _, p1, p2, p3, h.symm⟩)
theorem FU.file {name file : List UInt8} {u : U} (h : FU name file u) : fileU u := by
  rcases h with rfl | rfl | ⟨a, b, _, _, _, rfl⟩
  · exact .inl rfl
  · exact .inr (.inr rfl)
  · exact .inr (.inl rfl)
theorem FU.ok {name file : List UInt8} {u : U} (h : FU name file u) (h1 : 1 ≤ name.length) (h2 : name.length ≤ 32) (h3 : file.length ≤ 3000) : okU u ∧ inR u.sum 0 4294967295 := by
  rcases h with rfl | rfl | ⟨a, b, p1, p2, p3, rfl⟩
  · exact ⟨okMe h1 h2 h3, by show inR 0 0 4294967295; exact ⟨by decide, by decide⟩⟩
  · exact ⟨okEn h3, crc32_in file⟩
  · refine ⟨?_, by show inR 0 0 4294967295; exact ⟨by decide, by decide⟩⟩
    have hl : ((file.take b).drop a).length = b - a := by rw [List.length_drop, List.length_take]; omega
    refine ⟨(show inR 3 0 65535 from ⟨by decide, by decide⟩), ?_, rfl⟩
    show inR (((file.take b).drop a).length : Nat) 1 160 ∧ inR (a : Nat) 0 (65535 - (((file.take b).drop a).length : Nat))
    rw [hl]
    exact ⟨⟨by omega, by omega⟩, by omega, by omega⟩
/-- What has come with it. -/
def fUpd (u : U) (hf : Nat → Bool) (k : Nat) : Bool := hf k || (decide (u.offset ≤ k) && decide ((k : Int) < u.offset + u.data.length))
/-- What is said of a transaction that is not done. -/
structure FPre (name file : List UInt8) (hf : Nat → Bool) (me en : Bool) (x : TS) : Prop where
  tcap : tcapOk x.tx
  mt : x.tme = me ∧ (me = true → x.nm = name ∧ x.sz = file.length)
  ed : x.ten = en ∧ (en = true → x.la = file.length ∧ x.sm = crc32 file) ∧ x.ph = if en = true then 2 else 1
  runs : Runs x.tx.2.2.1 x.h x.ge ∧ x.tx.2.2.1 ≤ file.length
  cov : ∀ k : Nat, k < file.length → (hf k = true ↔ Cov x.h x.ge k)
  tt : ∀ k : Nat, k < file.length → hf k = true → x.tx.2.2.2.2 k = (file.getD k 0).toNat
theorem FOk.pre {name file : List UInt8} {hf : Nat → Bool} {me en : Bool} {x : TS} (h : FOk name file hf me en false x) : FPre name file hf me en x :=
  ⟨h.tcap, h.mt rfl, h.ed rfl, h.runs rfl, h.cov rfl, h.txt rfl⟩
theorem FPre.ok {name file : List UInt8} {hf : Nat → Bool} {me en : Bool} {x : TS} (h : FPre name file hf me en x) (hc : 1 ≤ x.cO ∧ x.cO ≤ 9223372036854775807) (hp : ¬ (me = true ∧ en = true ∧ ∀ k, k < file.length → hf k = true)) : FOk name file hf me en false x :=
  ⟨hc, h.tcap, (fun q => by cases q), fun _ => h.mt, fun _ => h.ed, fun _ => h.runs, fun _ => h.cov, fun _ => h.tt, fun _ => hp⟩
section
variable {name file : List UInt8} {hf : Nat → Bool} {me en : Bool} {x : TS}
/-- It makes no difference to tries, clock, what is due. -/
theorem FPre.tick (h : FPre name file hf me en x) (tr wy cl du : Int) : FPre name file hf me en { x with tr := tr, wy := wy, cl := cl, du := du } := ⟨h.tcap, h.mt, h.ed, h.runs, h.cov, h.tt⟩
theorem FPre.meta1 (h : FPre name file hf me en x) (hm : x.tme = false) : FPre name file hf true en { x with tme := true, nm := name, sz := file.length } :=
  ⟨h.tcap, ⟨rfl, fun _ => ⟨rfl, rfl⟩⟩, h.ed, h.runs, h.cov, h.tt⟩
theorem FPre.meta2 (h : FPre name file hf me en x) (hm : x.tme = true) : FPre name file hf true en x := by
  have : me = true := by rw [← h.mt.1]; exact hm
  subst this
  exact h
theorem FPre.end1 (h : FPre name file hf me en x) : FPre name file hf me true { x with ten := true, la := file.length, sm := crc32 file, ph := 2 } :=
  ⟨h.tcap, h.mt, ⟨rfl, fun _ => ⟨rfl, rfl⟩, rfl⟩, h.runs, h.cov, h.tt⟩
theorem getD_part {a b k : Nat} (hb : b ≤ file.length) (h1 : a ≤ k) (h2 : k < b) : ((file.take b).drop a).getD (((k : Nat) : Int) - a).toNat 0 = file.getD k 0 := by
  have e : (((k : Nat) : Int) - a).toNat = k - a := by omega
  rw [e]
  simp only [List.getD, List.getElem?_drop]
  rw [show a + (k - a) = k by omega, List.getElem?_take_of_lt h2]
theorem FPre.data (h : FPre name file hf me en x) {a b : Nat} (hab : a < b) (hb : b ≤ file.length) {y : ArY} (hy : arrP (x, (a : Int), (file.take b).drop a) y) :
    FPre name file (fUpd ⟨2, 3, [], 0, 0, a, (file.take b).drop a, 0, 0, false, []⟩ hf) me en (arTs x y) := by
  obtain ⟨y1, y2, y3, y4, fr, e, yU, yh, yg⟩ := hy
  have hl : ((file.take b).drop a).length = b - a := by rw [List.length_drop, List.length_take]; omega
  simp only [hl] at y1 y3 y4 yU yh yg
  have hto : (a : Int) + ((b - a : Nat) : Int) = b := by omega
  rw [hto] at y1 y3 y4 yU yh
  have hn : ((y.1.2.2.1 : Nat) : Int) = if (b : Int) > x.tx.2.2.1 then (b : Int) else x.tx.2.2.1 := y1
  obtain ⟨hR, hlen⟩ := h.runs
  have hR2 : Runs y.1.2.2.1 x.h x.ge := ⟨fun z hz => by have := hR.1 z hz; rw [hn]; split <;> omega, hR.2⟩
  have hN := runs_new (n := y.1.2.2.1) (at_ := a) (to := b) (by omega) (by omega) (by rw [hn]; split <;> omega) hR2 yU
  have hC := cov_new (n := y.1.2.2.1) (at_ := a) (to := b) (by omega) hR2 yU
  have eh : y.2.1 = newH x.h x.ge a b fr := funext yh
  have eg : y.2.2 = newG x.ge fr e := funext yg
  have hu : ∀ k : Nat, fUpd ⟨2, 3, [], 0, 0, a, (file.take b).drop a, 0, 0, false, []⟩ hf k = true ↔ hf k = true ∨ (a ≤ k ∧ k < b) := fun k => by
    simp only [fUpd, hl, hto]
    simp
  refine ⟨y2, h.mt, h.ed, ⟨?_, ?_⟩, fun k hk => ?_, fun k hk hfk => ?_⟩
  · show Runs y.1.2.2.1 y.2.1 y.2.2
    rw [eh, eg]; exact hN
  · show y.1.2.2.1 ≤ file.length
    have : (y.1.2.2.1 : Int) ≤ file.length := by rw [hn]; split <;> omega
    omega
  · show _ ↔ Cov y.2.1 y.2.2 k
    rw [eh, eg, hC, hu, h.cov k hk]
    constructor
    · rintro (q | q)
      · exact .inl q
      · exact .inr (by omega)
    · rintro (q | q)
      · exact .inl q
      · exact .inr (by omega)
  · show y.1.2.2.2.2 k = _
    by_cases q : a ≤ k ∧ k < b
    · rcases y4 k (by omega) (by omega) with r | r
      · rw [r, getD_part hb q.1 q.2]
      · have hk1 : hf k = true := (h.cov k hk).2 r
        obtain ⟨z, z1, z2, z3⟩ := r
        have := (hR.1 z z1).2.2
        rcases y3 k (by omega) with s | ⟨_, _, s⟩
        · rw [s]; exact h.tt k hk hk1
        · rw [s, getD_part hb q.1 q.2]
    · have hk1 : hf k = true := by
        rcases (hu k).1 hfk with r | r
        · exact r
        · exact absurd r q
      obtain ⟨z, z1, z2, z3⟩ := (h.cov k hk).1 hk1
      have := (hR.1 z z1).2.2
      rcases y3 k (by omega) with s | ⟨s1, s2, _⟩
      · rw [s]; exact h.tt k hk hk1
      · exact absurd ⟨by omega, by omega⟩ q
theorem byt_file {f : Nat → Int} (h : ∀ k : Nat, k < file.length → f k = (file.getD k 0).toNat) : Byt.of f file.length = file := by
  unfold Byt.of
  apply List.ext_getElem?
  intro i
  by_cases hi : i < file.length
  · rw [List.getElem?_map, List.getElem?_range hi, Option.map_some, h i hi]
    simp [List.getD, hi]
  · rw [List.getElem?_eq_none (by simpa using hi), List.getElem?_eq_none (by omega)]
/-- Where all has come, the text is the file. -/
theorem FPre.whole (h : FPre name file hf me en x) (ha : ∀ k, k < file.length → hf k = true) : txt x = file := by
  have hn : x.tx.2.2.1 = file.length := by
    have h1 := h.runs.2
    by_cases h0 : file.length = 0
    · omega
    · obtain ⟨z, z1, z2, z3⟩ := (h.cov (file.length - 1) (by omega)).1 (ha _ (by omega))
      have := (h.runs.1.1 z z1).2.2
      omega
  show Byt.of x.tx.2.2.2.2 x.tx.2.2.1 = file
  rw [hn]
  exact byt_file fun k hk => h.tt k hk (ha k hk)
theorem FPre.fin (h : FPre name file hf me true x) : finP x ↔ me = true ∧ ∀ k, k < file.length → hf k = true := by
  have hla := (h.ed.2.1 rfl).1
  unfold finP
  rw [h.mt.1, hla]
  constructor
  · rintro ⟨q1, q2⟩
    exact ⟨q1, fun k hk => (h.cov k hk).2 (q2 k (by omega))⟩
  · rintro ⟨q1, q2⟩
    exact ⟨q1, fun k hk => (h.cov k (by omega)).1 (q2 k (by omega))⟩
/-- What check asks. -/
theorem FPre.asks (h : FPre name file hf me true x) (h3 : file.length ≤ 3000) (bR : Nat) : chkA.inv (bR, x) := by
  obtain ⟨hla, hsm⟩ := h.ed.2.1 rfl
  refine ⟨h.ed.1, h.runs.1, by show (x.tx.2.2.1 : Int) ≤ x.la; have := h.runs.2; omega, by show x.la ≤ 65535; omega, h.tcap, fun hf2 => ?_⟩
  obtain ⟨q1, q2⟩ := h.fin.1 hf2
  refine ⟨?_, ?_⟩
  · show x.sz = x.la
    rw [(h.mt.2 q1).2, hla]
  · show crc32 (txt x) = x.sm
    rw [h.whole q2, hsm]
end
/-- Behind Take. -/
def wholeB (hf : Nat → Bool) (me en : Bool) (n : Nat) : Bool := me && en && allTo hf n
theorem allTo_iff {f : Nat → Bool} : ∀ {n : Nat}, allTo f n = true ↔ ∀ k, k < n → f k = true
  | 0 => ⟨fun _ k hk => absurd hk (Nat.not_lt_zero _), fun _ => rfl⟩
  | n + 1 => by
    rw [allTo, Bool.and_eq_true, allTo_iff]
    exact ⟨fun ⟨h1, h2⟩ k hk => by
      by_cases q : k = n
      · rw [q]; exact h2
      · exact h1 k (by omega), fun h => ⟨fun k hk => h k (by omega), h n (by omega)⟩⟩
theorem wholeB_iff {hf : Nat → Bool} {me en : Bool} {n : Nat} : wholeB hf me en n = true ↔ me = true ∧ en = true ∧ ∀ k, k < n → hf k = true := by
  unfold wholeB
  rw [Bool.and_eq_true, Bool.and_eq_true, allTo_iff, and_assoc]
def tkP (name file : List UInt8) (hf : Nat → Bool) (me en dn : Bool) (y : J27) : Prop :=
  ocapOk y ∧ FOk name file hf me en (dn || wholeB hf me en file.length) y.ts ∧ y.nl = (if wholeB hf me en file.length = true ∧ dn = false then 1 else 0) ∧ (y.nl = 1 → y.enm = name ∧ y.efl = file)
section
variable {name file : List UInt8} {hf : Nat → Bool} {me en : Bool} {x : TS}
/-- Where nothing is checked. -/
theorem FPre.tk0 (h : FPre name file hf me false x) (hc : 1 ≤ x.cO ∧ x.cO ≤ 9223372036854775807) : tkP name file hf me false false ⟨x, 0, 0, 0, 0, [], []⟩ := by
  have hw : wholeB hf me false file.length = false := by unfold wholeB; rw [Bool.and_false, Bool.false_and]
  refine ⟨ocap0, ?_, by rw [hw]; rfl, fun q => by cases q⟩
  rw [hw]
  exact h.ok hc fun q => by cases q.2.1
/-- Where it is checked. -/
theorem FPre.tk1 (h : FPre name file hf me true x) (hc : 1 ≤ x.cO ∧ x.cO ≤ 9223372036854775807) {bR : Nat} {y : J27} (hy : chkP (bR, x) y) : tkP name file hf me true false y := by
  obtain ⟨y0, hy⟩ := hy
  rcases hy with ⟨f, y1, y2, y3, y4⟩ | ⟨f, y1, y2⟩
  · obtain ⟨q1, q2⟩ := h.fin.1 f
    have hw : wholeB hf me true file.length = true := wholeB_iff.2 ⟨q1, rfl, q2⟩
    refine ⟨y0, ?_, by rw [hw, y2]; rfl, fun _ => ⟨?_, ?_⟩⟩
    · rw [hw]
      refine ⟨by rw [y1]; exact hc, by rw [y1]; exact h.tcap, fun _ => ⟨by rw [y1], q1, rfl, q2⟩, (fun q => by cases q), (fun q => by cases q), (fun q => by cases q), (fun q => by cases q), (fun q => by cases q), (fun q => by cases q)⟩
    · rw [y3]; exact (h.mt.2 q1).1
    · rw [y4]; exact h.whole q2
  · have hw : wholeB hf me true file.length = false := by
      cases e : wholeB hf me true file.length with
      | false => rfl
      | true =>
        obtain ⟨q1, _, q3⟩ := wholeB_iff.1 e
        exact absurd (h.fin.2 ⟨q1, q3⟩) f
    refine ⟨y0, ?_, by rw [hw, y2]; rfl, fun q => by rw [y2] at q; cases q⟩
    rw [hw, y1]
    refine h.ok hc fun ⟨q1, _, q3⟩ => ?_
    exact f (h.fin.2 ⟨q1, q3⟩)
/-- Where it was done. -/
theorem FOk.tk2 (h : FOk name file hf me en true x) {hf' : Nat → Bool} {me' en' : Bool} (h1 : me' = true) (h2 : en' = true) (h3 : ∀ k, k < file.length → hf' k = true) {du : Int} : tkP name file hf' me' en' true ⟨{ x with du := du }, 0, 0, 0, 0, [], []⟩ := by
  refine ⟨ocap0, ?_, ?_, fun q => by cases q⟩
  · rw [Bool.true_or]
    exact ⟨h.cap, h.tcap, fun _ => ⟨(h.done rfl).1, h1, h2, h3⟩, (fun q => by cases q), (fun q => by cases q), (fun q => by cases q), (fun q => by cases q), (fun q => by cases q), (fun q => by cases q)⟩
  · rw [if_neg (fun q => by cases q.2)]
end
end Rc
