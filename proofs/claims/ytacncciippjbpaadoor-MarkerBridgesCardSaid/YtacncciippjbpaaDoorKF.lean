/-
  OWN WORK. Marker: Feed of the reference.
-/
import Derived.Test.YtacncciippjbpaaDoorKD
namespace Mk
open Go Go.Proofs Eng
set_option linter.unusedVariables false
set_option linter.unusedSimpArgs false
set_option maxRecDepth 100000
set_option maxHeartbeats 8000000

def RD.abs (d : RD) : St := ⟨(rowL d.l.f d.l.n).drop d.pl.toNat, d.pl, d.op, if d.op = true then d.wg else 0, d.ms, d.lk⟩
/-- What of it changes: the row, locked, place, open, wrong, misses. -/
abbrev RY := OwnD Int × Bool × Int × Bool × Int × Int
def RD.upd (d : RD) (y : RY) : RD := RD.mk d.1 d.2.1 d.len y.1 y.2.1 y.2.2.1 y.2.2.2.1 y.2.2.2.2.1 y.2.2.2.2.2
abbrev RX := RY × Nat × (Nat × Nat × Nat) × (Nat → BD)
abbrev aFeedR : ArgL (RD × RowD Int × Unit) := .cons aRef (.cons (.row (.int .i64)) .nil)
def feedRPre (d : RD) (r : RowD Int) : Prop := d.ok ∧ (d.l.z = true → d.l.n = 0) ∧ (d.l.n : Int) + r.n ≤ 1099511627776 ∧ 1 ≤ d.len ∧ d.len ≤ 20000
def feedRInv (d : RD) (N : Nat) : Prop := d.ok ∧ (d.l.z = true → d.l.n = 0) ∧ d.l.n = N
def feedRL (d : RD) (r : RowD Int) (y : RX) : Prop := Steps d.len.toNat (d.abs.push (rowL r.f r.n)) (bkL d.len.toNat y.2.2.2 y.2.1) (d.upd y.1).abs ∧ feedRInv (d.upd y.1) (d.l.n + r.n) ∧ y.2.1 ≤ y.2.2.1.2.2 ∧ ((33 * y.2.1 : Nat) : Int) ≤ y.1.2.2.1 ∧ (y.2.1 = 0 → y.2.2.1.2.2 = 0)
def feedRP (d : RD) (r : RowD Int) (y : RX) : Prop := if softB r.f r.n = true then Runs d.len.toNat (d.abs.push (rowL r.f r.n)) (bkL d.len.toNat y.2.2.2 y.2.1) (d.upd y.1).abs ∧ feedRInv (d.upd y.1) (d.l.n + r.n) ∧ y.2.1 ≤ y.2.2.1.2.2 ∧ y.2.1 ≤ 33318534300 ∧ (y.2.1 = 0 → y.2.2.1.2.2 = 0)
  else d.upd y.1 = d ∧ y.2.1 = 0 ∧ y.2.2.1.2.2 = 0
def feedR := ecC aFeedR (fun x => [feedRPre x.1 x.2.1]) (fun x (y : RX) => feedRP x.1 x.2.1 y) (fun x y => .tup [bSlice 3 y.2.1 y.2.2.1, .int .i64 (feedE x.2.1)]) (fun x y => Hp.app (Hp.owned (aRf.hp 0 (x.1.upd y.1, ()))) [bRow x.1.len.toNat 3 4 y.2.1 y.2.2.1 y.2.2.2, bFam x.1.len.toNat 4 y.2.1 y.2.2.2]) 2
def ERF : Env := (E0.addP 42 softC).addE 43 examR
theorem ERF_ok : EnvOk Tryd.prog ERF := (E0_ok.addP soft_ok).addE examR_ok
/-! ### the reference's finder as a machine -/
theorem RD.abs_len (d : RD) : d.abs.l.length = d.l.n - d.pl.toNat := by
  show ((rowL d.l.f d.l.n).drop d.pl.toNat).length = _
  rw [List.length_drop, rowL_len]
theorem RD.exam_keep {d : RD} (h : d.ok) : d.exam.1.1 = d.1 ∧ d.exam.1.2.1 = d.2.1 ∧ d.exam.1.len = d.len ∧ d.exam.1.l = d.l ∧ d.pl ≤ d.exam.1.pl ∧ d.exam.1.ok := by
  obtain ⟨h1, h2, h3, h4, h5, h6, h7, h8⟩ := h
  unfold RD.exam
  by_cases hc : d.op = true ∨ (d.l.n : Int) < d.pl + 32
  · rw [if_pos hc]
    exact ⟨rfl, rfl, rfl, rfl, Int.le_refl _, h1, h2, h3, h4, h5, h6, h7, h8⟩
  rw [if_neg hc]
  have hc' : d.pl + 32 ≤ d.l.n := by
    rcases Int.lt_or_le (d.l.n : Int) (d.pl + 32) with q | q
    · exact absurd (.inr q) hc
    · exact q
  by_cases c1 : wrA d.l.f d.pl.toNat ≤ 2
  · rw [if_pos c1]
    exact ⟨rfl, rfl, rfl, rfl, Int.le_refl _, h1, h2, h3, h4, h5, (by show (0 : Int) ≤ 0; omega), (by show (0 : Int) ≤ 3; omega), .inl (by show (0 : Int) < 3; omega)⟩
  rw [if_neg c1]
  by_cases c2 : d.lk = false
  · rw [if_pos c2]
    exact ⟨rfl, rfl, rfl, rfl, (by show d.pl ≤ d.pl + 1; omega), h1, h2, (by show 0 ≤ d.pl + 1; omega), (by show d.pl + 1 ≤ (d.l.n : Int); omega), h5, h6, h7, h8⟩
  rw [if_neg c2]
  have hms : d.ms < 3 := h8.resolve_right c2
  by_cases c3 : d.ms + 1 = 3
  · rw [if_pos c3]
    exact ⟨rfl, rfl, rfl, rfl, (by show d.pl ≤ d.pl + 1; omega), h1, h2, (by show 0 ≤ d.pl + 1; omega), (by show d.pl + 1 ≤ (d.l.n : Int); omega), h5, (by show 0 ≤ d.ms + 1; omega), (by show d.ms + 1 ≤ 3; omega), .inr rfl⟩
  · rw [if_neg c3]
    exact ⟨rfl, rfl, rfl, rfl, Int.le_refl _, h1, h2, h3, h4, h5, (by show 0 ≤ d.ms + 1; omega), (by show d.ms + 1 ≤ 3; omega), .inl (by show d.ms + 1 < 3; omega)⟩
theorem RD.exam_false {d : RD} {L : Nat} (hok : d.ok) (h : d.exam.2 = false) (hn : d.op = true → ¬ d.pl + 32 + L ≤ d.l.n) : d.exam.1 = d ∧ mstp L d.abs = none := by
  obtain ⟨h1, h2, h3, h4, h5, h6, h7, h8⟩ := hok
  by_cases hc : d.op = true ∨ (d.l.n : Int) < d.pl + 32
  · have he : d.exam = (d, false) := if_pos hc
    refine ⟨by rw [he], ?_⟩
    have hl := d.abs_len
    unfold mstp
    rw [hl]
    by_cases ho : d.op = true
    · have := hn ho
      rw [if_pos (show d.abs.op = true from ho), if_neg (by omega)]
    · have hc := hc.resolve_left ho
      rw [if_neg (show ¬ d.abs.op = true from ho), if_pos (by omega)]
  · exfalso
    unfold RD.exam at h
    rw [if_neg hc] at h
    split at h
    · cases h
    split at h
    · cases h
    split at h
    · cases h
    · cases h
theorem RD.exam_true {d : RD} {L : Nat} (hok : d.ok) (h : d.exam.2 = true) : Steps L d.abs [] d.exam.1.abs ∧ d.op = false ∧ ((d.exam.1.pl = d.pl ∧ d.exam.1.op = true) ∨ (d.exam.1.pl = d.pl + 1 ∧ d.exam.1.op = false ∧ d.pl + 1 ≤ d.l.n)) := by
  obtain ⟨h1, h2, h3, h4, h5, h6, h7, h8⟩ := hok
  by_cases hc : d.op = true ∨ (d.l.n : Int) < d.pl + 32
  · have he : d.exam = (d, false) := if_pos hc
    rw [he] at h; cases h
  have ho : d.op = false := by
    cases ho : d.op with
    | false => rfl
    | true => exact absurd (.inl ho) hc
  have hn : d.pl + 32 ≤ d.l.n := by
    rcases Int.lt_or_le (d.l.n : Int) (d.pl + 32) with q | q
    · exact absurd (.inr q) hc
    · exact q
  have hw0 : (if d.op = true then d.wg else 0) = 0 := if_neg (by rw [ho]; decide)
  have hcnt : cnt d.abs.l = wrA d.l.f d.pl.toNat := cnt_drop (by omega)
  have hm : mstp L d.abs = if wrA d.l.f d.pl.toNat ≤ 2 then some (⟨d.abs.l, d.pl, true, (wrA d.l.f d.pl.toNat : Nat), 0, true⟩, []) else if d.lk = false then some (⟨d.abs.l.drop 1, d.pl + 1, false, 0, d.ms, false⟩, []) else if d.ms + 1 = 3 then some (⟨d.abs.l, d.pl, false, 0, 3, false⟩, []) else some (⟨d.abs.l, d.pl, true, (wrA d.l.f d.pl.toNat : Nat), d.ms + 1, true⟩, []) := by
    unfold mstp
    rw [if_neg (show ¬ d.abs.op = true by show ¬ d.op = true; rw [ho]; decide), if_neg (by rw [d.abs_len]; omega), hcnt]
    rfl
  have hdrop : d.abs.l.drop 1 = (rowL d.l.f d.l.n).drop (d.pl + 1).toNat := by
    show ((rowL d.l.f d.l.n).drop d.pl.toNat).drop 1 = _
    rw [List.drop_drop]
    congr 1
    omega
  by_cases c1 : wrA d.l.f d.pl.toNat ≤ 2
  · have he : d.exam = (RD.mk d.1 d.2.1 d.len d.l true d.pl true (wrA d.l.f d.pl.toNat : Nat) 0, true) := by unfold RD.exam; rw [if_neg hc, if_pos c1]
    rw [he]
    rw [if_pos c1] at hm
    exact ⟨Steps.one hm, ho, .inl ⟨rfl, rfl⟩⟩
  rw [if_neg c1] at hm
  by_cases c2 : d.lk = false
  · have he : d.exam = (RD.mk d.1 d.2.1 d.len d.l d.lk (d.pl + 1) d.op d.wg d.ms, true) := by unfold RD.exam; rw [if_neg hc, if_neg c1, if_pos c2]
    rw [he]
    rw [if_pos c2, hdrop] at hm
    refine ⟨Steps.one (hm.trans ?_), ho, .inr ⟨rfl, ho, by omega⟩⟩
    show some (St.mk ((rowL d.l.f d.l.n).drop (d.pl + 1).toNat) (d.pl + 1) false 0 d.ms false, _) = some (St.mk ((rowL d.l.f d.l.n).drop (d.pl + 1).toNat) (d.pl + 1) d.op (if d.op = true then d.wg else 0) d.ms d.lk, _)
    rw [hw0, ho, c2]
  rw [if_neg c2] at hm
  have hl : d.lk = true := by simpa using c2
  by_cases c3 : d.ms + 1 = 3
  · have he : d.exam = (RD.mk d.1 d.2.1 d.len d.l false (d.pl + 1) d.op d.wg (d.ms + 1), true) := by unfold RD.exam; rw [if_neg hc, if_neg c1, if_neg c2, if_pos c3]
    rw [he]
    rw [if_pos c3] at hm
    have hm2 : mstp L ⟨d.abs.l, d.pl, false, 0, 3, false⟩ = some (⟨(rowL d.l.f d.l.n).drop (d.pl + 1).toNat, d.pl + 1, false, 0, 3, false⟩, []) := by
      unfold mstp
      dsimp only
      rw [if_neg (by decide), if_neg (by rw [d.abs_len]; omega), hcnt, if_neg c1, if_pos rfl, hdrop]
    refine ⟨(Steps.one hm).trans (Steps.one (hm2.trans ?_)), ho, .inr ⟨rfl, ho, by omega⟩⟩
    show some (St.mk ((rowL d.l.f d.l.n).drop (d.pl + 1).toNat) (d.pl + 1) false 0 3 false, _) = some (St.mk ((rowL d.l.f d.l.n).drop (d.pl + 1).toNat) (d.pl + 1) d.op (if d.op = true then d.wg else 0) (d.ms + 1) false, _)
    rw [hw0, ho, c3]
  · have he : d.exam = (RD.mk d.1 d.2.1 d.len d.l d.lk d.pl true (wrA d.l.f d.pl.toNat : Nat) (d.ms + 1), true) := by unfold RD.exam; rw [if_neg hc, if_neg c1, if_neg c2, if_neg c3]
    rw [he]
    rw [if_neg c3] at hm
    refine ⟨Steps.one (hm.trans ?_), ho, .inl ⟨rfl, rfl⟩⟩
    show some (St.mk _ d.pl true _ (d.ms + 1) true, _) = some (St.mk ((rowL d.l.f d.l.n).drop d.pl.toNat) d.pl true (wrA d.l.f d.pl.toNat : Nat) (d.ms + 1) d.lk, _)
    rw [hl]
    rfl
def feedr_Q1 (rb : Nat) (ro : Nat) (rn : Nat) (rc : Nat) (rz : Bool) (rf : Nat → Int) (fb : Nat) (fo : Nat) (len : Int) (b : Nat) (off : Nat) (n : Nat) (c : Nat) (z : Bool) (lk : Bool) (pl : Int) (op : Bool) (wg : Int) (ms : Int) (ez : Bool) (m : Nat) (cap : Nat) (f : Nat → Int) : Prop := ∃ (x1 : (Eng.OwnD Int × Bool × Int × Bool × Int × Int) × Nat × (Nat × Nat × Nat) × (Nat → Int × Int × Nat × Nat
    × Nat × (Nat → Int))), (Eng.SVeq (Eng.SV.slice (999999 : Nat) (0 : Nat) (0 : Nat) [] (0 : Nat) (0 : Nat) (0 : Nat) (0 : Nat) Bool.true) (Eng.SV.slice (3 : Nat) (Prod.fst (Prod.fst (Prod.snd (Prod.snd x1)))) (Prod.fst (Prod.snd (Prod.fst (Prod.snd (Prod.snd x1))))) [] (3 : Nat) (0 : Nat) (Prod.fst (Prod.snd x1)) (Prod.snd (Prod.snd (Prod.fst (Prod.snd (Prod.snd x1))))) (Nat.beq (Prod.fst (Prod.snd
    x1)) (0 : Nat))) ∧ (2 : Int) = Mk.feedE (Eng.RowD.mk rb ro rn rc rz rf)) ∧ ((fb = fb ∧ fo = fo ∧ Bool.false = Bool.false ∧ (1 : Nat) ≤ (1 : Nat) ∧ (1 : Nat) ≤ (1 : Nat) ∧ (1 : Nat) ≤ (1 : Nat)) ∧ len = len ∧ (b = Eng.OwnD.b (Prod.fst (Prod.fst x1)) ∧ off = Eng.OwnD.off (Prod.fst (Prod.fst x1)) ∧ (0 : Nat) = (0 : Nat) ∧ n = Eng.OwnD.n (Prod.fst (Prod.fst x1)) ∧ c = Eng.OwnD.c (Prod.fst (Prod.fst
    x1)) ∧ z = Eng.OwnD.z (Prod.fst (Prod.fst x1))) ∧ lk = Prod.fst (Prod.snd (Prod.fst x1)) ∧ pl = Prod.fst (Prod.snd (Prod.snd (Prod.fst x1))) ∧ op = Prod.fst (Prod.snd (Prod.snd (Prod.snd (Prod.fst x1)))) ∧ wg = Prod.fst (Prod.snd (Prod.snd (Prod.snd (Prod.snd (Prod.fst x1))))) ∧ ms = Prod.snd (Prod.snd (Prod.snd (Prod.snd (Prod.snd (Prod.fst x1)))))) ∧ ((b = Eng.OwnD.b (Prod.fst (Prod.fst x1)) ∧
    off = Eng.OwnD.off (Prod.fst (Prod.fst x1)) ∧ ez = Eng.OwnD.ez (Prod.fst (Prod.fst x1)) ∧ Eng.OwnD.m (Prod.fst (Prod.fst x1)) ≤ m ∧ Eng.OwnD.m (Prod.fst (Prod.fst x1)) ≤ Eng.OwnD.cap (Prod.fst (Prod.fst x1)) ∧ Eng.OwnD.cap (Prod.fst (Prod.fst x1)) ≤ cap) ∧ ∀ (i1 : Nat), i1 < Eng.OwnD.m (Prod.fst (Prod.fst x1)) → f i1 = Eng.OwnD.f (Prod.fst (Prod.fst x1)) i1) ∧ (Nat.beq (Prod.fst (Prod.snd x1)) (0 :
    Nat) = Bool.true ∧ Prod.fst (Prod.snd x1) = (0 : Nat) ∧ Prod.snd (Prod.snd (Prod.fst (Prod.snd (Prod.snd x1)))) = (0 : Nat)) ∧ (∀ (i2 : Nat), i2 < Prod.fst (Prod.snd x1) → False) ∧ Mk.feedRP (fb, fo, len, Eng.OwnD.mk b off n c z m cap ez f, lk, pl, op, wg, ms, ()) (Eng.RowD.mk rb ro rn rc rz rf) x1
def feedr_Q2 (fb : Nat) (fo : Nat) (len : Int) (b1 : Nat) (b2 : Nat) (n : Nat) (rn : Nat) (b3 : Nat) (z : Bool) (lk : Bool) (pl : Int) (op : Bool) (wg : Int) (ms : Int) (ez : Bool) (f : Nat → Int) (rf : Nat → Int) (b : Nat) (off : Nat) (c : Nat) (m : Nat) (cap : Nat) : Prop := ∃ (x2 : (Eng.OwnD Int × Bool × Int × Bool × Int × Int) × Nat × (Nat × Nat × Nat) × (Nat → Int × Int × Nat × Nat × Nat ×
    (Nat → Int))), Eng.SVeq (Eng.SV.slice (999999 : Nat) (0 : Nat) (0 : Nat) [] (0 : Nat) (0 : Nat) (0 : Nat) (0 : Nat) Bool.true) (Eng.SV.slice (800 : Nat) (Prod.fst (Prod.fst (Prod.snd (Prod.snd x2)))) (Prod.fst (Prod.snd (Prod.fst (Prod.snd (Prod.snd x2))))) [] (3 : Nat) (0 : Nat) (Prod.fst (Prod.snd x2)) (Prod.snd (Prod.snd (Prod.fst (Prod.snd (Prod.snd x2))))) (Nat.beq (Prod.fst (Prod.snd x2)) (0
    : Nat))) ∧ (Nat.beq (Prod.fst (Prod.snd x2)) (0 : Nat) = Bool.true ∧ Prod.fst (Prod.snd x2) = (0 : Nat) ∧ Prod.snd (Prod.snd (Prod.fst (Prod.snd (Prod.snd x2)))) = (0 : Nat)) ∧ (∀ (i3 : Nat), i3 < Prod.fst (Prod.snd x2) → False) ∧ ((fb = fb ∧ fo = fo ∧ Bool.false = Bool.false ∧ (1 : Nat) ≤ (1 : Nat) ∧ (1 : Nat) ≤ (1 : Nat) ∧ (1 : Nat) ≤ (1 : Nat)) ∧ len = len ∧ (b1 = Eng.OwnD.b (Prod.fst (Prod.fst
    x2)) ∧ b2 = Eng.OwnD.off (Prod.fst (Prod.fst x2)) ∧ (0 : Nat) = (0 : Nat) ∧ n + rn = Eng.OwnD.n (Prod.fst (Prod.fst x2)) ∧ b3 = Eng.OwnD.c (Prod.fst (Prod.fst x2)) ∧ (z && Decidable.decide (rn = (0 : Nat))) = Eng.OwnD.z (Prod.fst (Prod.fst x2))) ∧ lk = Prod.fst (Prod.snd (Prod.fst x2)) ∧ pl = Prod.fst (Prod.snd (Prod.snd (Prod.fst x2))) ∧ op = Prod.fst (Prod.snd (Prod.snd (Prod.snd (Prod.fst x2))))
    ∧ wg = Prod.fst (Prod.snd (Prod.snd (Prod.snd (Prod.snd (Prod.fst x2))))) ∧ ms = Prod.snd (Prod.snd (Prod.snd (Prod.snd (Prod.snd (Prod.fst x2)))))) ∧ ((b1 = Eng.OwnD.b (Prod.fst (Prod.fst x2)) ∧ b2 = Eng.OwnD.off (Prod.fst (Prod.fst x2)) ∧ (ez && Decidable.decide (rn = (0 : Nat))) = Eng.OwnD.ez (Prod.fst (Prod.fst x2)) ∧ Eng.OwnD.m (Prod.fst (Prod.fst x2)) ≤ n + rn ∧ Eng.OwnD.m (Prod.fst (Prod.fst
    x2)) ≤ Eng.OwnD.cap (Prod.fst (Prod.fst x2)) ∧ Eng.OwnD.cap (Prod.fst (Prod.fst x2)) ≤ b3) ∧ ∀ (i4 : Nat), i4 < Eng.OwnD.m (Prod.fst (Prod.fst x2)) → (if i4 < n then f i4 else rf (i4 - n)) = Eng.OwnD.f (Prod.fst (Prod.fst x2)) i4) ∧ Mk.Steps (Int.toNat len) (Mk.St.push (Mk.RD.abs (fb, fo, len, Eng.OwnD.mk b off n c z m cap ez f, lk, pl, op, wg, ms, ())) (Mk.rowL rf rn)) (Mk.bkL (Int.toNat len)
    (Prod.snd (Prod.snd (Prod.snd x2))) (Prod.fst (Prod.snd x2))) (Mk.RD.abs (Mk.RD.upd (fb, fo, len, Eng.OwnD.mk b off n c z m cap ez f, lk, pl, op, wg, ms, ()) (Prod.fst x2))) ∧ Mk.feedRInv (Mk.RD.upd (fb, fo, len, Eng.OwnD.mk b off n c z m cap ez f, lk, pl, op, wg, ms, ()) (Prod.fst x2)) (n + rn) ∧ Prod.fst (Prod.snd x2) ≤ Prod.snd (Prod.snd (Prod.fst (Prod.snd (Prod.snd x2)))) ∧ (↑((33 : Nat) *
    Prod.fst (Prod.snd x2)) : Int) ≤ Prod.fst (Prod.snd (Prod.snd (Prod.fst x2))) ∧ (Prod.fst (Prod.snd x2) = (0 : Nat) → Prod.snd (Prod.snd (Prod.fst (Prod.snd (Prod.snd x2)))) = (0 : Nat))
def feedr_Q3 (b9 : Nat) (b10 : Nat) (x3 : (Eng.OwnD Int × Bool × Int × Bool × Int × Int) × Nat × (Nat × Nat × Nat) × (Nat → Int × Int × Nat × Nat × Nat × (Nat → Int))) (b11 : Nat) (len : Int) (b5 : Nat) (b6 : Nat) (v2 : Int) (v4 : Int) (b7 : Nat) (fb : Nat) (fo : Nat) (b : Nat) (off : Nat) (n : Nat) (c : Nat) (z : Bool) (m : Nat) (cap : Nat) (ez : Bool) (f : Nat → Int) (lk : Bool) (pl : Int) (op :
    Bool) (wg : Int) (ms : Int) (rb : Nat) (ro : Nat) (rn : Nat) (rc : Nat) (rz : Bool) (rf : Nat → Int) : Prop := ∃ (x4 : (Eng.OwnD Int × Bool × Int × Bool × Int × Int) × Nat × (Nat × Nat × Nat) × (Nat → Int × Int × Nat × Nat × Nat × (Nat → Int))), (b9 = Prod.fst (Prod.fst (Prod.snd (Prod.snd x4))) ∧ b10 = Prod.fst (Prod.snd (Prod.fst (Prod.snd (Prod.snd x4)))) ∧ (0 : Nat) = (0 : Nat) ∧ Prod.fst
    (Prod.snd x3) + (1 : Nat) = Prod.fst (Prod.snd x4) ∧ b11 = Prod.snd (Prod.snd (Prod.fst (Prod.snd (Prod.snd x4)))) ∧ (Nat.beq (Prod.fst (Prod.snd x3)) (0 : Nat) && Decidable.decide ((1 : Nat) = (0 : Nat))) = Nat.beq (Prod.fst (Prod.snd x4)) (0 : Nat)) ∧ ((b9 = Prod.fst (Prod.fst (Prod.snd (Prod.snd x4))) ∧ b10 = Prod.fst (Prod.snd (Prod.fst (Prod.snd (Prod.snd x4)))) ∧ (Nat.beq (Prod.fst (Prod.snd
    x3)) (0 : Nat) && Decidable.decide ((1 : Nat) = (0 : Nat))) = Nat.beq (Prod.fst (Prod.snd x4)) (0 : Nat) ∧ Prod.fst (Prod.snd x4) ≤ Prod.fst (Prod.snd x3) + (1 : Nat) ∧ Prod.fst (Prod.snd x4) ≤ Prod.snd (Prod.snd (Prod.fst (Prod.snd (Prod.snd x4)))) ∧ Prod.snd (Prod.snd (Prod.fst (Prod.snd (Prod.snd x4)))) ≤ b11) ∧ ∀ (i5 : Nat), i5 < Prod.fst (Prod.snd x4) → (if i5 < Prod.fst (Prod.snd x3) then
    Prod.fst (Prod.snd (Prod.snd (Prod.snd x3)) i5) else Prod.fst (Prod.snd (Prod.snd (Prod.fst x3)))) = Prod.fst (Prod.snd (Prod.snd (Prod.snd x4)) i5) ∧ (if i5 < Prod.fst (Prod.snd x3) then Prod.fst (Prod.snd (Prod.snd (Prod.snd (Prod.snd x3)) i5)) else Prod.fst (Prod.snd (Prod.snd (Prod.snd (Prod.snd (Prod.fst x3)))))) = Prod.fst (Prod.snd (Prod.snd (Prod.snd (Prod.snd x4)) i5)) ∧ Eng.eqv3 (if i5 <
    Prod.fst (Prod.snd x3) then Eng.SV.slice (801 : Nat) (Prod.fst (Prod.snd (Prod.snd (Prod.snd (Prod.snd (Prod.snd x3)) i5)))) (Prod.fst (Prod.snd (Prod.snd (Prod.snd (Prod.snd (Prod.snd (Prod.snd x3)) i5))))) [Eng.PS.elt i5 (0 : Nat)] (1 : Nat) (0 : Nat) (Int.toNat len) (Prod.fst (Prod.snd (Prod.snd (Prod.snd (Prod.snd (Prod.snd (Prod.snd (Prod.snd x3)) i5)))))) Bool.false else Eng.SV.slice (3 :
    Nat) b5 b6 [] (1 : Nat) (0 : Nat) ((0 : Nat) + (Int.toNat v2 - Int.toNat v4)) b7 (Bool.false && Decidable.decide (Int.toNat v2 - Int.toNat v4 = (0 : Nat)))) (Eng.SV.slice (801 : Nat) (Prod.fst (Prod.snd (Prod.snd (Prod.snd (Prod.snd (Prod.snd x4)) i5)))) (Prod.fst (Prod.snd (Prod.snd (Prod.snd (Prod.snd (Prod.snd (Prod.snd x4)) i5))))) [Eng.PS.elt i5 (0 : Nat)] (1 : Nat) (0 : Nat) (Int.toNat len)
    (Prod.fst (Prod.snd (Prod.snd (Prod.snd (Prod.snd (Prod.snd (Prod.snd (Prod.snd x4)) i5)))))) Bool.false)) ∧ (∀ (i6 : Nat), i6 < Prod.fst (Prod.snd x4) → (∃ (x5 : Nat), x5 < Prod.fst (Prod.snd x3) ∧ (Prod.fst (Prod.snd (Prod.snd (Prod.snd (Prod.snd (Prod.snd x3)) x5))), Prod.fst (Prod.snd (Prod.snd (Prod.snd (Prod.snd (Prod.snd (Prod.snd x3)) x5))))) = (Prod.fst (Prod.snd (Prod.snd (Prod.snd
    (Prod.snd (Prod.snd x4)) i6))), Prod.fst (Prod.snd (Prod.snd (Prod.snd (Prod.snd (Prod.snd (Prod.snd x4)) i6))))) ∧ Int.toNat len = Int.toNat len ∧ ∀ (k2 : Nat), k2 < Int.toNat len → Prod.snd (Prod.snd (Prod.snd (Prod.snd (Prod.snd (Prod.snd (Prod.snd (Prod.snd x3)) x5))))) k2 = Prod.snd (Prod.snd (Prod.snd (Prod.snd (Prod.snd (Prod.snd (Prod.snd (Prod.snd x4)) i6))))) k2) ∨ (Bool.false &&
    Decidable.decide (Int.toNat v2 - Int.toNat v4 = (0 : Nat))) = Bool.false ∧ (b5, b6) = (Prod.fst (Prod.snd (Prod.snd (Prod.snd (Prod.snd (Prod.snd x4)) i6))), Prod.fst (Prod.snd (Prod.snd (Prod.snd (Prod.snd (Prod.snd (Prod.snd x4)) i6))))) ∧ (0 : Nat) + (Int.toNat v2 - Int.toNat v4) = Int.toNat len ∧ ∀ (k3 : Nat), k3 < (0 : Nat) + (Int.toNat v2 - Int.toNat v4) → (if k3 < (0 : Nat) then (0 : Int)
    else Eng.OwnD.f (Prod.fst (Prod.fst x3)) (match if Eng.OwnD.c (Prod.fst (Prod.fst x3)) = Int.toNat v4 then (0 : Nat) else Int.toNat v4 with | (0 : Nat) => k3 - (0 : Nat) | Nat.succ i => i + (1 : Nat) + (k3 - (0 : Nat)))) = Prod.snd (Prod.snd (Prod.snd (Prod.snd (Prod.snd (Prod.snd (Prod.snd (Prod.snd x4)) i6))))) k3) ∧ ((fb = fb ∧ fo = fo ∧ Bool.false = Bool.false ∧ (1 : Nat) ≤ (1 : Nat) ∧ (1 :
    Nat) ≤ (1 : Nat) ∧ (1 : Nat) ≤ (1 : Nat)) ∧ len = len ∧ (Eng.OwnD.b (Prod.fst (Prod.fst x3)) = Eng.OwnD.b (Prod.fst (Prod.fst x4)) ∧ Eng.OwnD.off (Prod.fst (Prod.fst x3)) = Eng.OwnD.off (Prod.fst (Prod.fst x4)) ∧ (0 : Nat) = (0 : Nat) ∧ Eng.OwnD.n (Prod.fst (Prod.fst x3)) = Eng.OwnD.n (Prod.fst (Prod.fst x4)) ∧ Eng.OwnD.c (Prod.fst (Prod.fst x3)) = Eng.OwnD.c (Prod.fst (Prod.fst x4)) ∧ Eng.OwnD.z
    (Prod.fst (Prod.fst x3)) = Eng.OwnD.z (Prod.fst (Prod.fst x4))) ∧ Prod.fst (Prod.snd (Prod.fst x3)) = Prod.fst (Prod.snd (Prod.fst x4)) ∧ v2 = Prod.fst (Prod.snd (Prod.snd (Prod.fst x4))) ∧ Bool.false = Prod.fst (Prod.snd (Prod.snd (Prod.snd (Prod.fst x4)))) ∧ Prod.fst (Prod.snd (Prod.snd (Prod.snd (Prod.snd (Prod.fst x3))))) = Prod.fst (Prod.snd (Prod.snd (Prod.snd (Prod.snd (Prod.fst x4))))) ∧
    Prod.snd (Prod.snd (Prod.snd (Prod.snd (Prod.snd (Prod.fst x3))))) = Prod.snd (Prod.snd (Prod.snd (Prod.snd (Prod.snd (Prod.fst x4)))))) ∧ ((Eng.OwnD.b (Prod.fst (Prod.fst x3)) = Eng.OwnD.b (Prod.fst (Prod.fst x4)) ∧ Eng.OwnD.off (Prod.fst (Prod.fst x3)) = Eng.OwnD.off (Prod.fst (Prod.fst x4)) ∧ Eng.OwnD.ez (Prod.fst (Prod.fst x3)) = Eng.OwnD.ez (Prod.fst (Prod.fst x4)) ∧ Eng.OwnD.m (Prod.fst
    (Prod.fst x4)) ≤ Eng.OwnD.m (Prod.fst (Prod.fst x3)) ∧ Eng.OwnD.m (Prod.fst (Prod.fst x4)) ≤ Eng.OwnD.cap (Prod.fst (Prod.fst x4)) ∧ Eng.OwnD.cap (Prod.fst (Prod.fst x4)) ≤ Eng.OwnD.cap (Prod.fst (Prod.fst x3))) ∧ ∀ (i7 : Nat), i7 < Eng.OwnD.m (Prod.fst (Prod.fst x4)) → Eng.OwnD.f (Prod.fst (Prod.fst x3)) i7 = Eng.OwnD.f (Prod.fst (Prod.fst x4)) i7) ∧ Mk.feedRL (fb, fo, len, Eng.OwnD.mk b off n c z
    m cap ez f, lk, pl, op, wg, ms, ()) (Eng.RowD.mk rb ro rn rc rz rf) x4 ∧ ((2 : Nat) * (Eng.OwnD.n (Prod.fst (Prod.fst x4)) - Int.toNat (Prod.fst (Prod.snd (Prod.snd (Prod.fst x4))))) + if Prod.fst (Prod.snd (Prod.snd (Prod.snd (Prod.fst x4)))) = Bool.true then (0 : Nat) else (1 : Nat)) < (2 : Nat) * (Eng.OwnD.n (Prod.fst (Prod.fst x3)) - Int.toNat (Prod.fst (Prod.snd (Prod.snd (Prod.fst x3))))) +
    if Prod.fst (Prod.snd (Prod.snd (Prod.snd (Prod.fst x3)))) = Bool.true then (0 : Nat) else (1 : Nat)
def feedr_Q4 (x3 : (Eng.OwnD Int × Bool × Int × Bool × Int × Int) × Nat × (Nat × Nat × Nat) × (Nat → Int × Int × Nat × Nat × Nat × (Nat → Int))) (rb : Nat) (ro : Nat) (rn : Nat) (rc : Nat) (rz : Bool) (rf : Nat → Int) (y1 : (Nat × Nat × Int × Eng.OwnD Int × Bool × Int × Bool × Int × Int × Unit) × Bool) (fb : Nat) (fo : Nat) (len : Int) (b : Nat) (off : Nat) (n : Nat) (c : Nat) (z : Bool) (m : Nat)
    (cap : Nat) (ez : Bool) (f : Nat → Int) (lk : Bool) (pl : Int) (op : Bool) (wg : Int) (ms : Int) : Prop := ∃ (x4 : (Eng.OwnD Int × Bool × Int × Bool × Int × Int) × Nat × (Nat × Nat × Nat) × (Nat → Int × Int × Nat × Nat × Nat × (Nat → Int))), ((Prod.fst (Prod.fst (Prod.snd (Prod.snd x3))) = Prod.fst (Prod.fst (Prod.snd (Prod.snd x4))) ∧ Prod.fst (Prod.snd (Prod.fst (Prod.snd (Prod.snd x3)))) =
    Prod.fst (Prod.snd (Prod.fst (Prod.snd (Prod.snd x4)))) ∧ (0 : Nat) = (0 : Nat) ∧ Prod.fst (Prod.snd x3) = Prod.fst (Prod.snd x4) ∧ Prod.snd (Prod.snd (Prod.fst (Prod.snd (Prod.snd x3)))) = Prod.snd (Prod.snd (Prod.fst (Prod.snd (Prod.snd x4)))) ∧ Nat.beq (Prod.fst (Prod.snd x3)) (0 : Nat) = Nat.beq (Prod.fst (Prod.snd x4)) (0 : Nat)) ∧ (0 : Int) = Mk.feedE (Eng.RowD.mk rb ro rn rc rz rf)) ∧
    ((Prod.fst (Prod.fst y1) = fb ∧ Prod.fst (Prod.snd (Prod.fst y1)) = fo ∧ Bool.false = Bool.false ∧ (1 : Nat) ≤ (1 : Nat) ∧ (1 : Nat) ≤ (1 : Nat) ∧ (1 : Nat) ≤ (1 : Nat)) ∧ Prod.fst (Prod.snd (Prod.snd (Prod.fst y1))) = len ∧ (Eng.OwnD.b (Prod.fst (Prod.snd (Prod.snd (Prod.snd (Prod.fst y1))))) = Eng.OwnD.b (Prod.fst (Prod.fst x4)) ∧ Eng.OwnD.off (Prod.fst (Prod.snd (Prod.snd (Prod.snd (Prod.fst
    y1))))) = Eng.OwnD.off (Prod.fst (Prod.fst x4)) ∧ (0 : Nat) = (0 : Nat) ∧ Eng.OwnD.n (Prod.fst (Prod.snd (Prod.snd (Prod.snd (Prod.fst y1))))) = Eng.OwnD.n (Prod.fst (Prod.fst x4)) ∧ Eng.OwnD.c (Prod.fst (Prod.snd (Prod.snd (Prod.snd (Prod.fst y1))))) = Eng.OwnD.c (Prod.fst (Prod.fst x4)) ∧ Eng.OwnD.z (Prod.fst (Prod.snd (Prod.snd (Prod.snd (Prod.fst y1))))) = Eng.OwnD.z (Prod.fst (Prod.fst x4))) ∧
    Prod.fst (Prod.snd (Prod.snd (Prod.snd (Prod.snd (Prod.fst y1))))) = Prod.fst (Prod.snd (Prod.fst x4)) ∧ Prod.fst (Prod.snd (Prod.snd (Prod.snd (Prod.snd (Prod.snd (Prod.fst y1)))))) = Prod.fst (Prod.snd (Prod.snd (Prod.fst x4))) ∧ Prod.fst (Prod.snd (Prod.snd (Prod.snd (Prod.snd (Prod.snd (Prod.snd (Prod.fst y1))))))) = Prod.fst (Prod.snd (Prod.snd (Prod.snd (Prod.fst x4)))) ∧ Prod.fst (Prod.snd
    (Prod.snd (Prod.snd (Prod.snd (Prod.snd (Prod.snd (Prod.snd (Prod.fst y1)))))))) = Prod.fst (Prod.snd (Prod.snd (Prod.snd (Prod.snd (Prod.fst x4))))) ∧ Prod.fst (Prod.snd (Prod.snd (Prod.snd (Prod.snd (Prod.snd (Prod.snd (Prod.snd (Prod.snd (Prod.fst y1))))))))) = Prod.snd (Prod.snd (Prod.snd (Prod.snd (Prod.snd (Prod.fst x4)))))) ∧ ((Eng.OwnD.b (Prod.fst (Prod.snd (Prod.snd (Prod.snd (Prod.fst
    y1))))) = Eng.OwnD.b (Prod.fst (Prod.fst x4)) ∧ Eng.OwnD.off (Prod.fst (Prod.snd (Prod.snd (Prod.snd (Prod.fst y1))))) = Eng.OwnD.off (Prod.fst (Prod.fst x4)) ∧ Eng.OwnD.ez (Prod.fst (Prod.snd (Prod.snd (Prod.snd (Prod.fst y1))))) = Eng.OwnD.ez (Prod.fst (Prod.fst x4)) ∧ Eng.OwnD.m (Prod.fst (Prod.fst x4)) ≤ Eng.OwnD.m (Prod.fst (Prod.snd (Prod.snd (Prod.snd (Prod.fst y1))))) ∧ Eng.OwnD.m (Prod.fst
    (Prod.fst x4)) ≤ Eng.OwnD.cap (Prod.fst (Prod.fst x4)) ∧ Eng.OwnD.cap (Prod.fst (Prod.fst x4)) ≤ Eng.OwnD.cap (Prod.fst (Prod.snd (Prod.snd (Prod.snd (Prod.fst y1)))))) ∧ ∀ (i5 : Nat), i5 < Eng.OwnD.m (Prod.fst (Prod.fst x4)) → Eng.OwnD.f (Prod.fst (Prod.snd (Prod.snd (Prod.snd (Prod.fst y1))))) i5 = Eng.OwnD.f (Prod.fst (Prod.fst x4)) i5) ∧ ((Prod.fst (Prod.fst (Prod.snd (Prod.snd x3))) = Prod.fst
    (Prod.fst (Prod.snd (Prod.snd x4))) ∧ Prod.fst (Prod.snd (Prod.fst (Prod.snd (Prod.snd x3)))) = Prod.fst (Prod.snd (Prod.fst (Prod.snd (Prod.snd x4)))) ∧ Nat.beq (Prod.fst (Prod.snd x3)) (0 : Nat) = Nat.beq (Prod.fst (Prod.snd x4)) (0 : Nat) ∧ Prod.fst (Prod.snd x4) ≤ Prod.fst (Prod.snd x3) ∧ Prod.fst (Prod.snd x4) ≤ Prod.snd (Prod.snd (Prod.fst (Prod.snd (Prod.snd x4)))) ∧ Prod.snd (Prod.snd
    (Prod.fst (Prod.snd (Prod.snd x4)))) ≤ Prod.snd (Prod.snd (Prod.fst (Prod.snd (Prod.snd x3))))) ∧ ∀ (i6 : Nat), i6 < Prod.fst (Prod.snd x4) → Prod.fst (Prod.snd (Prod.snd (Prod.snd x3)) i6) = Prod.fst (Prod.snd (Prod.snd (Prod.snd x4)) i6) ∧ Prod.fst (Prod.snd (Prod.snd (Prod.snd (Prod.snd x3)) i6)) = Prod.fst (Prod.snd (Prod.snd (Prod.snd (Prod.snd x4)) i6)) ∧ Prod.fst (Prod.snd (Prod.snd
    (Prod.snd (Prod.snd (Prod.snd x3)) i6))) = Prod.fst (Prod.snd (Prod.snd (Prod.snd (Prod.snd (Prod.snd x4)) i6))) ∧ Prod.fst (Prod.snd (Prod.snd (Prod.snd (Prod.snd (Prod.snd (Prod.snd x3)) i6)))) = Prod.fst (Prod.snd (Prod.snd (Prod.snd (Prod.snd (Prod.snd (Prod.snd x4)) i6)))) ∧ (0 : Nat) = (0 : Nat) ∧ Int.toNat len = Int.toNat len ∧ Prod.fst (Prod.snd (Prod.snd (Prod.snd (Prod.snd (Prod.snd
    (Prod.snd (Prod.snd x3)) i6))))) = Prod.fst (Prod.snd (Prod.snd (Prod.snd (Prod.snd (Prod.snd (Prod.snd (Prod.snd x4)) i6))))) ∧ Bool.false = Bool.false) ∧ (∀ (i7 : Nat), i7 < Prod.fst (Prod.snd x4) → ∃ (x5 : Nat), x5 < Prod.fst (Prod.snd x3) ∧ (Prod.fst (Prod.snd (Prod.snd (Prod.snd (Prod.snd (Prod.snd x3)) x5))), Prod.fst (Prod.snd (Prod.snd (Prod.snd (Prod.snd (Prod.snd (Prod.snd x3)) x5))))) =
    (Prod.fst (Prod.snd (Prod.snd (Prod.snd (Prod.snd (Prod.snd x4)) i7))), Prod.fst (Prod.snd (Prod.snd (Prod.snd (Prod.snd (Prod.snd (Prod.snd x4)) i7))))) ∧ Int.toNat len = Int.toNat len ∧ ∀ (k3 : Nat), k3 < Int.toNat len → Prod.snd (Prod.snd (Prod.snd (Prod.snd (Prod.snd (Prod.snd (Prod.snd (Prod.snd x3)) x5))))) k3 = Prod.snd (Prod.snd (Prod.snd (Prod.snd (Prod.snd (Prod.snd (Prod.snd (Prod.snd
    x4)) i7))))) k3) ∧ Mk.feedRP (fb, fo, len, Eng.OwnD.mk b off n c z m cap ez f, lk, pl, op, wg, ms, ()) (Eng.RowD.mk rb ro rn rc rz rf) x4
def feedr_Q5 (x3 : (Eng.OwnD Int × Bool × Int × Bool × Int × Int) × Nat × (Nat × Nat × Nat) × (Nat → Int × Int × Nat × Nat × Nat × (Nat → Int))) (len : Int) (y1 : (Nat × Nat × Int × Eng.OwnD Int × Bool × Int × Bool × Int × Int × Unit) × Bool) (fb : Nat) (fo : Nat) (b : Nat) (off : Nat) (n : Nat) (c : Nat) (z : Bool) (m : Nat) (cap : Nat) (ez : Bool) (f : Nat → Int) (lk : Bool) (pl : Int) (op :
    Bool) (wg : Int) (ms : Int) (rb : Nat) (ro : Nat) (rn : Nat) (rc : Nat) (rz : Bool) (rf : Nat → Int) : Prop := ∃ (x5 : (Eng.OwnD Int × Bool × Int × Bool × Int × Int) × Nat × (Nat × Nat × Nat) × (Nat → Int × Int × Nat × Nat × Nat × (Nat → Int))), (Prod.fst (Prod.fst (Prod.snd (Prod.snd x3))) = Prod.fst (Prod.fst (Prod.snd (Prod.snd x5))) ∧ Prod.fst (Prod.snd (Prod.fst (Prod.snd (Prod.snd x3)))) =
    Prod.fst (Prod.snd (Prod.fst (Prod.snd (Prod.snd x5)))) ∧ (0 : Nat) = (0 : Nat) ∧ Prod.fst (Prod.snd x3) = Prod.fst (Prod.snd x5) ∧ Prod.snd (Prod.snd (Prod.fst (Prod.snd (Prod.snd x3)))) = Prod.snd (Prod.snd (Prod.fst (Prod.snd (Prod.snd x5)))) ∧ Nat.beq (Prod.fst (Prod.snd x3)) (0 : Nat) = Nat.beq (Prod.fst (Prod.snd x5)) (0 : Nat)) ∧ ((Prod.fst (Prod.fst (Prod.snd (Prod.snd x3))) = Prod.fst
    (Prod.fst (Prod.snd (Prod.snd x5))) ∧ Prod.fst (Prod.snd (Prod.fst (Prod.snd (Prod.snd x3)))) = Prod.fst (Prod.snd (Prod.fst (Prod.snd (Prod.snd x5)))) ∧ Nat.beq (Prod.fst (Prod.snd x3)) (0 : Nat) = Nat.beq (Prod.fst (Prod.snd x5)) (0 : Nat) ∧ Prod.fst (Prod.snd x5) ≤ Prod.fst (Prod.snd x3) ∧ Prod.fst (Prod.snd x5) ≤ Prod.snd (Prod.snd (Prod.fst (Prod.snd (Prod.snd x5)))) ∧ Prod.snd (Prod.snd
    (Prod.fst (Prod.snd (Prod.snd x5)))) ≤ Prod.snd (Prod.snd (Prod.fst (Prod.snd (Prod.snd x3))))) ∧ ∀ (i8 : Nat), i8 < Prod.fst (Prod.snd x5) → Prod.fst (Prod.snd (Prod.snd (Prod.snd x3)) i8) = Prod.fst (Prod.snd (Prod.snd (Prod.snd x5)) i8) ∧ Prod.fst (Prod.snd (Prod.snd (Prod.snd (Prod.snd x3)) i8)) = Prod.fst (Prod.snd (Prod.snd (Prod.snd (Prod.snd x5)) i8)) ∧ Prod.fst (Prod.snd (Prod.snd
    (Prod.snd (Prod.snd (Prod.snd x3)) i8))) = Prod.fst (Prod.snd (Prod.snd (Prod.snd (Prod.snd (Prod.snd x5)) i8))) ∧ Prod.fst (Prod.snd (Prod.snd (Prod.snd (Prod.snd (Prod.snd (Prod.snd x3)) i8)))) = Prod.fst (Prod.snd (Prod.snd (Prod.snd (Prod.snd (Prod.snd (Prod.snd x5)) i8)))) ∧ (0 : Nat) = (0 : Nat) ∧ Int.toNat len = Int.toNat len ∧ Prod.fst (Prod.snd (Prod.snd (Prod.snd (Prod.snd (Prod.snd
    (Prod.snd (Prod.snd x3)) i8))))) = Prod.fst (Prod.snd (Prod.snd (Prod.snd (Prod.snd (Prod.snd (Prod.snd (Prod.snd x5)) i8))))) ∧ Bool.false = Bool.false) ∧ (∀ (i9 : Nat), i9 < Prod.fst (Prod.snd x5) → ∃ (x6 : Nat), x6 < Prod.fst (Prod.snd x3) ∧ (Prod.fst (Prod.snd (Prod.snd (Prod.snd (Prod.snd (Prod.snd x3)) x6))), Prod.fst (Prod.snd (Prod.snd (Prod.snd (Prod.snd (Prod.snd (Prod.snd x3)) x6))))) =
    (Prod.fst (Prod.snd (Prod.snd (Prod.snd (Prod.snd (Prod.snd x5)) i9))), Prod.fst (Prod.snd (Prod.snd (Prod.snd (Prod.snd (Prod.snd (Prod.snd x5)) i9))))) ∧ Int.toNat len = Int.toNat len ∧ ∀ (k3 : Nat), k3 < Int.toNat len → Prod.snd (Prod.snd (Prod.snd (Prod.snd (Prod.snd (Prod.snd (Prod.snd (Prod.snd x3)) x6))))) k3 = Prod.snd (Prod.snd (Prod.snd (Prod.snd (Prod.snd (Prod.snd (Prod.snd (Prod.snd
    x5)) i9))))) k3) ∧ ((Prod.fst (Prod.fst y1) = fb ∧ Prod.fst (Prod.snd (Prod.fst y1)) = fo ∧ Bool.false = Bool.false ∧ (1 : Nat) ≤ (1 : Nat) ∧ (1 : Nat) ≤ (1 : Nat) ∧ (1 : Nat) ≤ (1 : Nat)) ∧ Prod.fst (Prod.snd (Prod.snd (Prod.fst y1))) = len ∧ (Eng.OwnD.b (Prod.fst (Prod.snd (Prod.snd (Prod.snd (Prod.fst y1))))) = Eng.OwnD.b (Prod.fst (Prod.fst x5)) ∧ Eng.OwnD.off (Prod.fst (Prod.snd (Prod.snd
    (Prod.snd (Prod.fst y1))))) = Eng.OwnD.off (Prod.fst (Prod.fst x5)) ∧ (0 : Nat) = (0 : Nat) ∧ Eng.OwnD.n (Prod.fst (Prod.snd (Prod.snd (Prod.snd (Prod.fst y1))))) = Eng.OwnD.n (Prod.fst (Prod.fst x5)) ∧ Eng.OwnD.c (Prod.fst (Prod.snd (Prod.snd (Prod.snd (Prod.fst y1))))) = Eng.OwnD.c (Prod.fst (Prod.fst x5)) ∧ Eng.OwnD.z (Prod.fst (Prod.snd (Prod.snd (Prod.snd (Prod.fst y1))))) = Eng.OwnD.z
    (Prod.fst (Prod.fst x5))) ∧ Prod.fst (Prod.snd (Prod.snd (Prod.snd (Prod.snd (Prod.fst y1))))) = Prod.fst (Prod.snd (Prod.fst x5)) ∧ Prod.fst (Prod.snd (Prod.snd (Prod.snd (Prod.snd (Prod.snd (Prod.fst y1)))))) = Prod.fst (Prod.snd (Prod.snd (Prod.fst x5))) ∧ Prod.fst (Prod.snd (Prod.snd (Prod.snd (Prod.snd (Prod.snd (Prod.snd (Prod.fst y1))))))) = Prod.fst (Prod.snd (Prod.snd (Prod.snd (Prod.fst
    x5)))) ∧ Prod.fst (Prod.snd (Prod.snd (Prod.snd (Prod.snd (Prod.snd (Prod.snd (Prod.snd (Prod.fst y1)))))))) = Prod.fst (Prod.snd (Prod.snd (Prod.snd (Prod.snd (Prod.fst x5))))) ∧ Prod.fst (Prod.snd (Prod.snd (Prod.snd (Prod.snd (Prod.snd (Prod.snd (Prod.snd (Prod.snd (Prod.fst y1))))))))) = Prod.snd (Prod.snd (Prod.snd (Prod.snd (Prod.snd (Prod.fst x5)))))) ∧ ((Eng.OwnD.b (Prod.fst (Prod.snd
    (Prod.snd (Prod.snd (Prod.fst y1))))) = Eng.OwnD.b (Prod.fst (Prod.fst x5)) ∧ Eng.OwnD.off (Prod.fst (Prod.snd (Prod.snd (Prod.snd (Prod.fst y1))))) = Eng.OwnD.off (Prod.fst (Prod.fst x5)) ∧ Eng.OwnD.ez (Prod.fst (Prod.snd (Prod.snd (Prod.snd (Prod.fst y1))))) = Eng.OwnD.ez (Prod.fst (Prod.fst x5)) ∧ Eng.OwnD.m (Prod.fst (Prod.fst x5)) ≤ Eng.OwnD.m (Prod.fst (Prod.snd (Prod.snd (Prod.snd (Prod.fst
    y1))))) ∧ Eng.OwnD.m (Prod.fst (Prod.fst x5)) ≤ Eng.OwnD.cap (Prod.fst (Prod.fst x5)) ∧ Eng.OwnD.cap (Prod.fst (Prod.fst x5)) ≤ Eng.OwnD.cap (Prod.fst (Prod.snd (Prod.snd (Prod.snd (Prod.fst y1)))))) ∧ ∀ (i10 : Nat), i10 < Eng.OwnD.m (Prod.fst (Prod.fst x5)) → Eng.OwnD.f (Prod.fst (Prod.snd (Prod.snd (Prod.snd (Prod.fst y1))))) i10 = Eng.OwnD.f (Prod.fst (Prod.fst x5)) i10) ∧ Mk.feedRL (fb, fo,
    len, Eng.OwnD.mk b off n c z m cap ez f, lk, pl, op, wg, ms, ()) (Eng.RowD.mk rb ro rn rc rz rf) x5 ∧ ((2 : Nat) * (Eng.OwnD.n (Prod.fst (Prod.fst x5)) - Int.toNat (Prod.fst (Prod.snd (Prod.snd (Prod.fst x5))))) + if Prod.fst (Prod.snd (Prod.snd (Prod.snd (Prod.fst x5)))) = Bool.true then (0 : Nat) else (1 : Nat)) < (2 : Nat) * (Eng.OwnD.n (Prod.fst (Prod.fst x3)) - Int.toNat (Prod.fst (Prod.snd
    (Prod.snd (Prod.fst x3))))) + if Prod.fst (Prod.snd (Prod.snd (Prod.snd (Prod.fst x3)))) = Bool.true then (0 : Nat) else (1 : Nat)
abbrev RD.ry (e : RD) : RY := (e.l, e.lk, e.pl, e.op, e.wg, e.ms)
section
variable {rb ro rn rc : Nat} {rz : Bool} {rf : Nat → Int} {fb fo : Nat} {len : Int} {b off n c : Nat} {z : Bool} {lk : Bool} {pl : Int} {op : Bool} {wg ms : Int} {ez : Bool} {m cap : Nat} {f : Nat → Int}
theorem feedr_Q1_ok (h : softB rf rn = false) (h2 : m ≤ cap) : feedr_Q1 rb ro rn rc rz rf fb fo len b off n c z lk pl op wg ms ez m cap f := by
  refine ⟨((⟨b, off, n, c, z, m, cap, ez, f⟩, lk, pl, op, wg, ms), 0, (0, 0, 0), fun _ => (0, 0, 0, 0, 0, fun _ => 0)), ?_⟩
  have hE : (2 : Int) = feedE ⟨rb, ro, rn, rc, rz, rf⟩ := by unfold feedE; rw [h]; rfl
  have hP : feedRP (fb, fo, (len, ⟨b, off, n, c, z, m, cap, ez, f⟩, lk, pl, op, wg, ms, ())) ⟨rb, ro, rn, rc, rz, rf⟩ ((⟨b, off, n, c, z, m, cap, ez, f⟩, lk, pl, op, wg, ms), 0, (0, 0, 0), fun _ => (0, 0, 0, 0, 0, fun _ => 0)) := by
    unfold feedRP
    rw [h, if_neg (by decide)]
    exact ⟨rfl, rfl, rfl⟩
  dsimp only
  repeat' (first | exact rfl | exact trivial | exact Nat.le_refl _ | assumption | exact nil_eqv rfl rfl rfl | exact svr _ | apply And.intro | (intro i hi; exact absurd hi (Nat.not_lt_zero _)) | (intro i hi; exact ⟨i, hi, rfl, rfl, fun _ _ => rfl⟩) | intro _)
theorem pushR_abs (d : RD) (r : RowD Int) (l : OwnD Int) (h : d.pl.toNat ≤ d.l.n) (hn : l.n = d.l.n + r.n) (hf : ∀ i, i < l.n → l.f i = if i < d.l.n then d.l.f i else r.f (i - d.l.n)) : d.abs.push (rowL r.f r.n) = (d.upd (l, d.lk, d.pl, d.op, d.wg, d.ms)).abs := by
  unfold RD.abs St.push RD.upd
  dsimp only [RD.l, RD.mk, RD.op, RD.wg, RD.pl, RD.ms, RD.lk]
  rw [← List.drop_append_of_le_length (by rw [rowL_len]; exact h), rowL_app, hn]
  congr 2
  refine rowL_congr fun i hi => ?_
  rw [hf i (by rw [hn]; exact hi)]
theorem feedr_Q2_ok {b1 b2 b3 : Nat} (hp : feedRPre (fb, fo, (len, ⟨b, off, n, c, z, m, cap, ez, f⟩, lk, pl, op, wg, ms, ())) ⟨rb, ro, rn, rc, rz, rf⟩) (h1 : n + rn ≤ b3) : feedr_Q2 fb fo len b1 b2 n rn b3 z lk pl op wg ms ez f rf b off c m cap := by
  obtain ⟨⟨⟨a1, a2, a3, a4⟩, a5, a6, a7, a8, a9, a10, a11⟩, p2, p3, p4, p5⟩ := hp
  dsimp only [RD.l, RD.pl, RD.ms, RD.lk, RD.op, RD.len] at a1 a2 a3 a4 a5 a6 a7 a8 a9 a10 a11 p2 p3 p4 p5
  refine ⟨((⟨b1, b2, n + rn, b3, z && decide (rn = 0), n + rn, b3, ez && decide (rn = 0), fun i => if i < n then f i else rf (i - n)⟩, lk, pl, op, wg, ms), 0, (0, 0, 0), fun _ => (0, 0, 0, 0, 0, fun _ => 0)), ?_⟩
  have hS := pushR_abs (fb, fo, (len, ⟨b, off, n, c, z, m, cap, ez, f⟩, lk, pl, op, wg, ms, ())) ⟨rb, ro, rn, rc, rz, rf⟩ ⟨b1, b2, n + rn, b3, z && decide (rn = 0), n + rn, b3, ez && decide (rn = 0), fun i => if i < n then f i else rf (i - n)⟩ (by show pl.toNat ≤ n; omega) rfl (fun i hi => rfl)
  have hSt : Steps len.toNat (St.push (RD.abs (fb, fo, (len, ⟨b, off, n, c, z, m, cap, ez, f⟩, lk, pl, op, wg, ms, ()))) (rowL rf rn)) (bkL len.toNat (fun _ => (0, 0, 0, 0, 0, fun _ => 0)) 0) (RD.abs (RD.upd (fb, fo, (len, ⟨b, off, n, c, z, m, cap, ez, f⟩, lk, pl, op, wg, ms, ())) (⟨b1, b2, n + rn, b3, z && decide (rn = 0), n + rn, b3, ez && decide (rn = 0), fun i => if i < n then f i else rf (i - n)⟩, lk, pl, op, wg, ms))) := by
    rw [hS]
    exact .refl _
  have hI : feedRInv (RD.upd (fb, fo, (len, ⟨b, off, n, c, z, m, cap, ez, f⟩, lk, pl, op, wg, ms, ())) (⟨b1, b2, n + rn, b3, z && decide (rn = 0), n + rn, b3, ez && decide (rn = 0), fun i => if i < n then f i else rf (i - n)⟩, lk, pl, op, wg, ms)) (n + rn) := by
    refine ⟨⟨⟨Nat.le_refl _, h1, h1, Nat.le_refl _⟩, fun h => ?_, a6, ?_, ?_, a9, a10, a11⟩, fun h => ?_, rfl⟩
    · have h : (z && decide (rn = 0)) = true := h
      rw [Bool.and_eq_true] at h
      show (ez && decide (rn = 0)) = true
      rw [a5 h.1, h.2]; rfl
    · show pl ≤ ((n + rn : Nat) : Int)
      omega
    · show n + rn ≤ 1099511627776
      omega
    · have h : (z && decide (rn = 0)) = true := h
      rw [Bool.and_eq_true, decide_eq_true_eq] at h
      have := p2 h.1
      show n + rn = 0
      omega
  have h33 : ((33 * 0 : Nat) : Int) ≤ pl := by omega
  dsimp only
  repeat' (first | exact rfl | exact trivial | exact Nat.le_refl _ | assumption | exact nil_eqv rfl rfl rfl | exact svr _ | apply And.intro | (intro i hi; exact absurd hi (Nat.not_lt_zero _)) | (intro i hi; exact ⟨i, hi, rfl, rfl, fun _ _ => rfl⟩) | intro _)
theorem feedr_Q4_ok {x3 : RX} {y1 : RD × Bool} (hs : softB rf rn = true) (k1 : y1.1.1 = fb) (k2 : y1.1.2.1 = fo) (k5 : y1.1.len = len) (hm : y1.1.l.m ≤ y1.1.l.cap) (hc : x3.2.1 ≤ x3.2.2.1.2.2)
    (hP : feedRP (fb, fo, (len, ⟨b, off, n, c, z, m, cap, ez, f⟩, lk, pl, op, wg, ms, ())) ⟨rb, ro, rn, rc, rz, rf⟩ (y1.1.ry, x3.2)) : feedr_Q4 x3 rb ro rn rc rz rf y1 fb fo len b off n c z m cap ez f lk pl op wg ms := by
  have hE : (0 : Int) = feedE ⟨rb, ro, rn, rc, rz, rf⟩ := by unfold feedE; rw [hs]; rfl
  refine ⟨(y1.1.ry, x3.2), ?_⟩
  dsimp only
  repeat' (first | exact rfl | exact trivial | exact Nat.le_refl _ | assumption | exact nil_eqv rfl rfl rfl | exact svr _ | apply And.intro | (intro i hi; exact absurd hi (Nat.not_lt_zero _)) | (intro i hi; exact ⟨i, hi, rfl, rfl, fun _ _ => rfl⟩) | intro _)
theorem feedr_Q5_ok {x3 : RX} {y1 : RD × Bool} (k1 : y1.1.1 = fb) (k2 : y1.1.2.1 = fo) (k5 : y1.1.len = len) (hm : y1.1.l.m ≤ y1.1.l.cap) (hc : x3.2.1 ≤ x3.2.2.1.2.2)
    (hL : feedRL (fb, fo, (len, ⟨b, off, n, c, z, m, cap, ez, f⟩, lk, pl, op, wg, ms, ())) ⟨rb, ro, rn, rc, rz, rf⟩ (y1.1.ry, x3.2)) (hme : 2 * (y1.1.l.n - y1.1.pl.toNat) + (if y1.1.op = true then 0 else 1) < 2 * (x3.1.1.n - x3.1.2.2.1.toNat) + if x3.1.2.2.2.1 = true then 0 else 1) : feedr_Q5 x3 len y1 fb fo b off n c z m cap ez f lk pl op wg ms rb ro rn rc rz rf := by
  refine ⟨(y1.1.ry, x3.2), ?_⟩
  dsimp only
  repeat' (first | exact rfl | exact trivial | exact Nat.le_refl _ | assumption | exact nil_eqv rfl rfl rfl | exact svr _ | apply And.intro | (intro i hi; exact absurd hi (Nat.not_lt_zero _)) | (intro i hi; exact ⟨i, hi, rfl, rfl, fun _ _ => rfl⟩) | intro _)
theorem feedr_Q3_ok {b9 b10 b11 b5 b6 b7 P L : Nat} {x3 : RX} {v2 v4 : Int} (hL : len.toNat = L) (h1 : 1 ≤ L) (hv2 : v2 = ((P + 32 + L : Nat) : Int)) (hv4 : v4 = ((P + 32 : Nat) : Int)) (hcc : P + 32 + L ≤ x3.1.1.c) (hm : x3.1.1.m ≤ x3.1.1.cap) (hb : x3.2.1 + 1 ≤ b11)
    (hF : feedRL (fb, fo, (len, ⟨b, off, n, c, z, m, cap, ez, f⟩, lk, pl, op, wg, ms, ())) ⟨rb, ro, rn, rc, rz, rf⟩ ((x3.1.1, x3.1.2.1, v2, false, x3.1.2.2.2.2.1, x3.1.2.2.2.2.2), x3.2.1 + 1, (b9, b10, b11), (emitB x3.2.1 x3.2.2.2 (x3.1.2.2.1, x3.1.2.2.2.2.1, b5, b6, b7, fun j => x3.1.1.f (P + 32 + j)))))
    (hme : 2 * (x3.1.1.n - v2.toNat) + 1 < 2 * (x3.1.1.n - x3.1.2.2.1.toNat) + if x3.1.2.2.2.1 = true then 0 else 1) : feedr_Q3 b9 b10 x3 b11 len b5 b6 v2 v4 b7 fb fo b off n c z m cap ez f lk pl op wg ms rb ro rn rc rz rf := by
  have t1 : v2.toNat - v4.toNat = L := by rw [hv2, hv4]; omega
  have t2 : (if x3.1.1.c = v4.toNat then 0 else v4.toNat) = P + 32 := by
    have : v4.toNat = P + 32 := by rw [hv4]; omega
    rw [this, if_neg (by omega)]
  have hz : (Nat.beq x3.2.1 0 && decide (1 = 0)) = Nat.beq (x3.2.1 + 1) 0 := by
    rw [decide_eq_false (by omega : ¬ 1 = 0), Bool.and_false]; rfl
  have e1 : ∀ i, (if i < x3.2.1 then (x3.2.2.2 i).1 else x3.1.2.2.1) = ((emitB x3.2.1 x3.2.2.2 (x3.1.2.2.1, x3.1.2.2.2.2.1, b5, b6, b7, fun j => x3.1.1.f (P + 32 + j))) i).1 := fun i => by unfold emitB; split <;> rfl
  have e2 : ∀ i, (if i < x3.2.1 then (x3.2.2.2 i).2.1 else x3.1.2.2.2.2.1) = ((emitB x3.2.1 x3.2.2.2 (x3.1.2.2.1, x3.1.2.2.2.2.1, b5, b6, b7, fun j => x3.1.1.f (P + 32 + j))) i).2.1 := fun i => by unfold emitB; split <;> rfl
  have e3 : ∀ i, i < x3.2.1 + 1 → eqv3 (if i < x3.2.1 then .slice 801 (x3.2.2.2 i).2.2.1 (x3.2.2.2 i).2.2.2.1 [.elt i 0] 1 0 len.toNat (x3.2.2.2 i).2.2.2.2.1 false else .slice 3 b5 b6 [] 1 0 (0 + L) b7 (false && decide (L = 0)))
      (.slice 801 ((emitB x3.2.1 x3.2.2.2 (x3.1.2.2.1, x3.1.2.2.2.2.1, b5, b6, b7, fun j => x3.1.1.f (P + 32 + j))) i).2.2.1 ((emitB x3.2.1 x3.2.2.2 (x3.1.2.2.1, x3.1.2.2.2.2.1, b5, b6, b7, fun j => x3.1.1.f (P + 32 + j))) i).2.2.2.1 [.elt i 0] 1 0 len.toNat ((emitB x3.2.1 x3.2.2.2 (x3.1.2.2.1, x3.1.2.2.2.2.1, b5, b6, b7, fun j => x3.1.1.f (P + 32 + j))) i).2.2.2.2.1 false) := fun i hi => by
    unfold emitB
    by_cases q : i < x3.2.1
    · rw [if_pos q, if_pos q]
      exact ⟨rfl, rfl, rfl, rfl, rfl, rfl⟩
    · rw [if_neg q, if_neg q]
      show SVeq (.slice 3 b5 b6 [] 1 0 (0 + L) b7 (false && decide (L = 0))) (.slice 801 b5 b6 [.elt i 0] 1 0 len.toNat b7 false)
      refine ⟨?_, ?_, rfl, fun h => ?_⟩
      · simp [SV.den, pathOff, PS.off, hL]
      · simp [SV.flat, pathOff, PS.off, hL]
      · exact ⟨fun q => (by cases q), by have := h.2.1; rw [hL]; omega, h.2.2⟩
  have e4 : ∀ i, i < x3.2.1 + 1 → (∃ j : Nat, j < x3.2.1 ∧ ((x3.2.2.2 j).2.2.1, (x3.2.2.2 j).2.2.2.1) = (((emitB x3.2.1 x3.2.2.2 (x3.1.2.2.1, x3.1.2.2.2.2.1, b5, b6, b7, fun j => x3.1.1.f (P + 32 + j))) i).2.2.1, ((emitB x3.2.1 x3.2.2.2 (x3.1.2.2.1, x3.1.2.2.2.2.1, b5, b6, b7, fun j => x3.1.1.f (P + 32 + j))) i).2.2.2.1) ∧ len.toNat = len.toNat ∧ ∀ k, k < len.toNat → (x3.2.2.2 j).2.2.2.2.2 k = ((emitB x3.2.1 x3.2.2.2 (x3.1.2.2.1, x3.1.2.2.2.2.1, b5, b6, b7, fun j => x3.1.1.f (P + 32 + j))) i).2.2.2.2.2 k) ∨
      ((false && decide (L = 0)) = false ∧ (b5, b6) = (((emitB x3.2.1 x3.2.2.2 (x3.1.2.2.1, x3.1.2.2.2.2.1, b5, b6, b7, fun j => x3.1.1.f (P + 32 + j))) i).2.2.1, ((emitB x3.2.1 x3.2.2.2 (x3.1.2.2.1, x3.1.2.2.2.2.1, b5, b6, b7, fun j => x3.1.1.f (P + 32 + j))) i).2.2.2.1) ∧ 0 + L = len.toNat ∧ ∀ k, k < 0 + L → (if k < 0 then 0 else x3.1.1.f (match P + 32 with | 0 => k - 0 | .succ i => i + 1 + (k - 0))) = ((emitB x3.2.1 x3.2.2.2 (x3.1.2.2.1, x3.1.2.2.2.2.1, b5, b6, b7, fun j => x3.1.1.f (P + 32 + j))) i).2.2.2.2.2 k) := fun i hi => by
    by_cases q : i < x3.2.1
    · have : (emitB x3.2.1 x3.2.2.2 (x3.1.2.2.1, x3.1.2.2.2.2.1, b5, b6, b7, fun j => x3.1.1.f (P + 32 + j))) i = x3.2.2.2 i := if_pos q
      rw [this]
      exact .inl ⟨i, q, rfl, rfl, fun _ _ => rfl⟩
    · have : (emitB x3.2.1 x3.2.2.2 (x3.1.2.2.1, x3.1.2.2.2.2.1, b5, b6, b7, fun j => x3.1.1.f (P + 32 + j))) i = (x3.1.2.2.1, x3.1.2.2.2.2.1, b5, b6, b7, fun j => x3.1.1.f (P + 32 + j)) := if_neg q
      rw [this]
      exact .inr ⟨rfl, rfl, by rw [hL]; omega, fun k hk => by rw [if_neg (by omega)]; rfl⟩
  unfold feedr_Q3
  rw [t1, t2]
  refine ⟨((x3.1.1, x3.1.2.1, v2, false, x3.1.2.2.2.2.1, x3.1.2.2.2.2.2), x3.2.1 + 1, (b9, b10, b11), (emitB x3.2.1 x3.2.2.2 (x3.1.2.2.1, x3.1.2.2.2.2.1, b5, b6, b7, fun j => x3.1.1.f (P + 32 + j)))), ?_⟩
  dsimp only
  repeat' (first | exact rfl | exact trivial | exact Nat.le_refl _ | assumption | exact svr _ | apply And.intro | exact e4 | (intro i hi; exact ⟨e1 i, e2 i, e3 i hi⟩) | intro _)
end
theorem feedRL_emit {d : RD} {r : RowD Int} {y : RX} {L P : Nat} {A : Nat × Nat × Nat} {x : BD} (hL : d.len.toNat = L) (h1 : 1 ≤ L) (hy : feedRL d r y) (hP : y.1.2.2.1 = P) (ho : y.1.2.2.2.1 = true) (hn : P + 32 + L ≤ y.1.1.n)
    (hx : x.1 = y.1.2.2.1 ∧ x.2.1 = y.1.2.2.2.2.1 ∧ ∀ j, j < L → x.2.2.2.2.2 j = y.1.1.f (P + 32 + j)) (hA : y.2.1 + 1 ≤ A.2.2) : feedRL d r ((y.1.1, y.1.2.1, ((P + 32 + L : Nat) : Int), false, y.1.2.2.2.2.1, y.1.2.2.2.2.2), y.2.1 + 1, A, emitB y.2.1 y.2.2.2 x) := by
  obtain ⟨y1, ⟨⟨a1, a5, a6, a7, a8, a9, a10, a11⟩, p2, p3⟩, y4, y5, y6⟩ := hy
  rw [hL] at y1
  refine ⟨?_, ⟨⟨a1, a5, ?_, ?_, a8, a9, a10, a11⟩, p2, p3⟩, hA, ?_, fun q => by cases q⟩
  · rw [hL]
    show Steps L _ (bkL L (emitB y.2.1 y.2.2.2 x) (y.2.1 + 1)) _
    rw [emit_bk]
    refine y1.trans (Steps.one ?_)
    have hPn : y.1.2.2.1.toNat = P := by rw [hP]; exact Int.toNat_natCast P
    have hl : (RD.upd d y.1).abs.l = (rowL y.1.1.f y.1.1.n).drop P := by
      show (rowL y.1.1.f y.1.1.n).drop y.1.2.2.1.toNat = _
      rw [hPn]
    have hlen : (RD.upd d y.1).abs.l.length = y.1.1.n - P := by rw [hl, List.length_drop, rowL_len]
    have ht : (((RD.upd d y.1).abs.l).drop 32).take L = rowL (fun j => y.1.1.f (P + 32 + j)) L := by
      rw [hl, List.drop_drop, rowL_drop, rowL_take _ _ _ (by omega)]
    have hd : (RD.upd d y.1).abs.l.drop (32 + L) = (rowL y.1.1.f y.1.1.n).drop (P + 32 + L) := by
      rw [hl, List.drop_drop]; congr 1; omega
    unfold mstp
    rw [if_pos (show (RD.upd d y.1).abs.op = true from ho), if_pos (by rw [hlen]; omega), ht, hd]
    rw [hx.1, hx.2.1, rowL_congr hx.2.2]
    have hw : (RD.upd d y.1).abs.wg = y.1.2.2.2.2.1 := if_pos ho
    rw [hw]
    have hpl : (RD.upd d y.1).abs.pl + ((32 + L : Nat) : Int) = ((P + 32 + L : Nat) : Int) := by
      show y.1.2.2.1 + _ = _
      rw [hP]; omega
    rw [hpl]
    show some (St.mk _ _ _ _ _ _, _) = some (St.mk ((rowL y.1.1.f y.1.1.n).drop (Int.toNat ((P + 32 + L : Nat) : Int))) ((P + 32 + L : Nat) : Int) false 0 y.1.2.2.2.2.2 y.1.2.1, _)
    rw [Int.toNat_natCast]
    rfl
  · show (0 : Int) ≤ ((P + 32 + L : Nat) : Int); omega
  · show ((P + 32 + L : Nat) : Int) ≤ (y.1.1.n : Int); omega
  · show ((33 * (y.2.1 + 1) : Nat) : Int) ≤ ((P + 32 + L : Nat) : Int)
    rw [hP] at y5
    omega
theorem feedR_ok : EcOk Tryd.prog 23 feedR := by
  refine ecC_run (fun _ => ERF_ok) Tryd.func23 rfl (by kernel_rfl) [(4, 801)]
    (fun x => [.loop ⟨5, RX, [6], fun y => [bSlice 800 y.2.1 y.2.2.1], [0, 1], fun y => bRow x.1.len.toNat 800 801 y.2.1 y.2.2.1 y.2.2.2 :: bFam x.1.len.toNat 801 y.2.1 y.2.2.2 :: Hp.owned (aRf.hp 0 (x.1.upd y.1, ())), feedRL x.1 x.2.1, fun y => 2 * (y.1.1.n - y.1.2.2.1.toNat) + if y.1.2.2.2.1 = true then 0 else 1⟩,
      .draw 5 (.take 0 (.take 1 (.take 2 (.take 3 (.take 4 (.take 5 (.take 6 (.take 7 (.take 8 (.take 9 (.take 10 .fin))))))))))) [], .draw 7 (.take 0 (.take 1 (.take 2 (.take 3 (.take 4 (.take 5 (.take 6 (.take 7 (.take 8 (.take 10 (.take 11 (.take 12 (.take 13 (.take 14 (.take 15 (.take 16 (.take 17 (.take 18 (.take 19 (.take 20 (.br 9 (.br 21 (.take 22 (.br 23 (.br 24 (.take 25 .fin) .stop) .stop)) .stop) .stop))))))))))))))))))))) [100800]])
    (fun _ => Nat.le_of_ble_eq_true rfl) (fun ⟨⟨fb, fo, (len, ⟨b, off, n, c, z, m, cap, ez, f⟩, lk, pl, op, wg, ms, ())⟩, ⟨rb, ro, rn, rc, rz, rf⟩, ()⟩ hp hw => ?_)
  refine vc_of (q :=
      rn ≤ rn ∧ (∀ (k1 : Nat), k1 < rn → Bool.true = Bool.true) ∧ (rb = rb ∧ ro = ro) ∧ ∀ (t1 : Bool), t1 = Mk.softB rf rn → ((!t1) = Bool.true → Mk.feedr_Q1 rb ro rn rc rz rf fb fo len b off n c z lk pl op wg ms ez m cap f) ∧ ((!t1) = Bool.false → (fb = fb ∧ fo = fo) ∧ (b = b ∧ off = off) ∧ (z = Bool.true → ez = Bool.true) ∧ (0 : Nat) = (0 : Nat) ∧ n ≤ m ∧ c ≤ cap ∧ (n + rn) * (8 : Nat) ≤
      (140737488355328 : Nat) ∧ n + rn ≤ (9223372036854775807 : Nat) ∧ rn ≤ rn ∧ (rb = rb ∧ ro = ro) ∧ ∀ (b1 b2 b3 : Nat), n + rn ≤ b3 → b3 ≤ (9223372036854775807 : Nat) → (ez = Bool.true → rn = (0 : Nat) → b3 = (0 : Nat)) → (fb = fb ∧ fo = fo) ∧ Mk.feedr_Q2 fb fo len b1 b2 n rn b3 z lk pl op wg ms ez f rf b off c m cap ∧ ∀ (x3 : (Eng.OwnD Int × Bool × Int × Bool × Int × Int) × Nat × (Nat × Nat × Nat) ×
      (Nat → Int × Int × Nat × Nat × Nat × (Nat → Int))), Mk.feedRL (fb, fo, len, Eng.OwnD.mk b off n c z m cap ez f, lk, pl, op, wg, ms, ()) (Eng.RowD.mk rb ro rn rc rz rf) x3 → (fb = fb ∧ fo = fo) ∧ ∀ (v1 : Int), v1 = Go.IntKind.wrap Go.IntKind.i64 (Prod.fst (Prod.snd (Prod.snd (Prod.fst x3))) + (32 : Int)) → (fb = fb ∧ fo = fo) ∧ ∀ (v2 : Int), v2 = Go.IntKind.wrap Go.IntKind.i64 (v1 + len) → (fb = fb
      ∧ fo = fo) ∧ (Prod.fst (Prod.snd (Prod.snd (Prod.snd (Prod.fst x3)))) = Bool.true → fb = fb ∧ fo = fo) ∧ ∀ (v3 : Int), v3 = (↑(Eng.OwnD.n (Prod.fst (Prod.fst x3))) : Int) → ∀ (t2 : Bool), (t2 = if Prod.fst (Prod.snd (Prod.snd (Prod.snd (Prod.fst x3)))) = Bool.true then Decidable.decide (v2 ≤ v3) else Bool.false) → (t2 = Bool.true → (fb = fb ∧ fo = fo) ∧ (fb = fb ∧ fo = fo) ∧ (fb = fb ∧ fo = fo) ∧
      (fb = fb ∧ fo = fo) ∧ ∀ (v4 : Int), v4 = Go.IntKind.wrap Go.IntKind.i64 (Prod.fst (Prod.snd (Prod.snd (Prod.fst x3))) + (32 : Int)) → (0 : Int) ≤ v2 ∧ v2 ≤ (↑(Eng.OwnD.c (Prod.fst (Prod.fst x3))) : Int) ∧ (0 : Int) ≤ v4 ∧ v4 ≤ v2 ∧ (∀ (b4 : Nat), ((b4 = b4 ∧ (0 : Nat) = (0 : Nat)) ∧ (Bool.false = Bool.true → Bool.false = Bool.true) ∧ (0 : Nat) = (0 : Nat) ∧ (0 : Nat) ≤ (0 : Nat) ∧ (0 : Nat) ≤ (0 :
      Nat) ∧ ((0 : Nat) + (Int.toNat v2 - Int.toNat v4)) * (8 : Nat) ≤ (140737488355328 : Nat) ∧ (0 : Nat) + (Int.toNat v2 - Int.toNat v4) ≤ (9223372036854775807 : Nat) ∧ (match if Eng.OwnD.c (Prod.fst (Prod.fst x3)) = Int.toNat v4 then (0 : Nat) else Int.toNat v4 with | (0 : Nat) => Int.toNat v2 - Int.toNat v4 | Nat.succ i => i + (1 : Nat) + (Int.toNat v2 - Int.toNat v4)) ≤ Eng.OwnD.m (Prod.fst
      (Prod.fst x3)) ∧ (Eng.OwnD.b (Prod.fst (Prod.fst x3)) = Eng.OwnD.b (Prod.fst (Prod.fst x3)) ∧ Eng.OwnD.off (Prod.fst (Prod.fst x3)) = Eng.OwnD.off (Prod.fst (Prod.fst x3))) ∧ ∀ (b5 b6 b7 : Nat), (0 : Nat) + (Int.toNat v2 - Int.toNat v4) ≤ b7 → b7 ≤ (9223372036854775807 : Nat) → (Bool.false = Bool.true → Int.toNat v2 - Int.toNat v4 = (0 : Nat) → b7 = (0 : Nat)) → (∀ (b8 : Nat), ((Prod.fst (Prod.fst
      (Prod.snd (Prod.snd x3))) = Prod.fst (Prod.fst (Prod.snd (Prod.snd x3))) ∧ Prod.fst (Prod.snd (Prod.fst (Prod.snd (Prod.snd x3)))) = Prod.fst (Prod.snd (Prod.fst (Prod.snd (Prod.snd x3))))) ∧ (Nat.beq (Prod.fst (Prod.snd x3)) (0 : Nat) = Bool.true → Nat.beq (Prod.fst (Prod.snd x3)) (0 : Nat) = Bool.true) ∧ (0 : Nat) = (0 : Nat) ∧ Prod.fst (Prod.snd x3) ≤ Prod.fst (Prod.snd x3) ∧ Prod.snd (Prod.snd
      (Prod.fst (Prod.snd (Prod.snd x3)))) ≤ Prod.snd (Prod.snd (Prod.fst (Prod.snd (Prod.snd x3)))) ∧ (Prod.fst (Prod.snd x3) + (1 : Nat)) * (40 : Nat) ≤ (140737488355328 : Nat) ∧ Prod.fst (Prod.snd x3) + (1 : Nat) ≤ (9223372036854775807 : Nat) ∧ (1 : Nat) ≤ (1 : Nat) ∧ (b8 = b8 ∧ (0 : Nat) = (0 : Nat)) ∧ ∀ (b9 b10 b11 : Nat), Prod.fst (Prod.snd x3) + (1 : Nat) ≤ b11 → b11 ≤ (9223372036854775807 : Nat)
      → (Nat.beq (Prod.fst (Prod.snd x3)) (0 : Nat) = Bool.true → (1 : Nat) = (0 : Nat) → b11 = (0 : Nat)) → (fb = fb ∧ fo = fo) ∧ (fb = fb ∧ fo = fo) ∧ Mk.feedr_Q3 b9 b10 x3 b11 len b5 b6 v2 v4 b7 fb fo b off n c z m cap ez f lk pl op wg ms rb ro rn rc rz rf) ∧ True) ∧ True) ∧ True) ∧ True) ∧ (t2 = Bool.false → (fb = fb ∧ fo = fo) ∧ (Eng.OwnD.b (Prod.fst (Prod.fst x3)) = Eng.OwnD.b (Prod.fst (Prod.fst
      x3)) ∧ Eng.OwnD.off (Prod.fst (Prod.fst x3)) = Eng.OwnD.off (Prod.fst (Prod.fst x3))) ∧ ((0 : Nat) = (0 : Nat) ∧ ∀ (k2 : Nat), k2 < Eng.OwnD.m (Prod.fst (Prod.fst x3)) → Bool.true = Bool.true) ∧ ∀ (x'1 : (Nat × Nat × Int × Eng.OwnD Int × Bool × Int × Bool × Int × Int × Unit) × Unit), x'1 = ((fb, fo, len, Prod.fst (Prod.fst x3), Prod.fst (Prod.snd (Prod.fst x3)), Prod.fst (Prod.snd (Prod.snd
      (Prod.fst x3))), Prod.fst (Prod.snd (Prod.snd (Prod.snd (Prod.fst x3)))), Prod.fst (Prod.snd (Prod.snd (Prod.snd (Prod.snd (Prod.fst x3))))), Prod.snd (Prod.snd (Prod.snd (Prod.snd (Prod.snd (Prod.fst x3))))), ()), ()) → Mk.RD.ok (Prod.fst x'1) ∧ ∀ (y1 : (Nat × Nat × Int × Eng.OwnD Int × Bool × Int × Bool × Int × Int × Unit) × Bool), y1 = Mk.RD.exam (Prod.fst x'1) → ∀ (t3 : Bool), t3 = Prod.snd y1
      → ((!t3) = Bool.true → Mk.feedr_Q4 x3 rb ro rn rc rz rf y1 fb fo len b off n c z m cap ez f lk pl op wg ms) ∧ ((!t3) = Bool.false → Mk.feedr_Q5 x3 len y1 fb fo b off n c z m cap ez f lk pl op wg ms rb ro rn rc rz rf)))) (by kernel_rfl) ?_
  obtain ⟨hp, _⟩ := hp
  have hp' := hp
  obtain ⟨⟨⟨a1, a2, a3, a4⟩, a5, a6, a7, a8, a9, a10, a11⟩, p2, p3, p4, p5⟩ := hp'
  dsimp only [RD.l, RD.pl, RD.ms, RD.lk, RD.op, RD.len] at a1 a2 a3 a4 a5 a6 a7 a8 a9 a10 a11 p2 p3 p4 p5
  obtain ⟨L, rfl⟩ : ∃ L : Nat, len = L := ⟨len.toNat, by omega⟩
  have hLn : Int.toNat (L : Int) = L := Int.toNat_natCast L
  refine ⟨Nat.le_refl _, fun _ _ => rfl, ⟨rfl, rfl⟩, fun t1 ht1 => ⟨fun h => feedr_Q1_ok (by rw [Bool.not_eq_true'] at h; rw [← ht1]; exact h) (by omega), fun h => ?_⟩⟩
  have hs : softB rf rn = true := by rw [← ht1]; simpa using h
  refine ⟨⟨rfl, rfl⟩, ⟨rfl, rfl⟩, a5, rfl, a1, a4, by omega, by omega, Nat.le_refl _, ⟨rfl, rfl⟩, fun b1 b2 b3 h3 h3' h3'' => ⟨⟨rfl, rfl⟩, feedr_Q2_ok hp h3, fun x3 hx3 => ?_⟩⟩
  have hx3' := hx3
  obtain ⟨z1, ⟨⟨⟨c1, c2, c3, c4⟩, c5, c6, c7, c8, c9, c10, c11⟩, q2, q3⟩, z4, z5, z6⟩ := hx3'
  dsimp only [RD.upd, RD.mk, RD.l, RD.pl, RD.ms, RD.lk, RD.op, RD.len] at c1 c2 c3 c4 c5 c6 c7 c8 c9 c10 c11 q2 q3 z5
  rw [hLn] at z1
  obtain ⟨P, hPe⟩ : ∃ P : Nat, x3.1.2.2.1 = P := ⟨x3.1.2.2.1.toNat, by omega⟩
  refine ⟨⟨rfl, rfl⟩, fun v1 hv1 => ⟨⟨rfl, rfl⟩, fun v2 hv2 => ⟨⟨rfl, rfl⟩, fun _ => ⟨rfl, rfl⟩, fun v3 hv3 t2 ht2 => ?_⟩⟩⟩
  have e1 : v1 = ((P + 32 : Nat) : Int) := by rw [hv1, w64_id (by omega) (by omega), hPe]; omega
  have e2 : v2 = ((P + 32 + L : Nat) : Int) := by rw [hv2, e1, w64_id (by omega) (by omega)]; omega
  have hk33 : x3.2.1 ≤ 33318534300 := by omega
  refine ⟨fun h2 => ?_, fun h2 => ?_⟩
  · have ho : x3.1.2.2.2.1 = true := by
      cases h : x3.1.2.2.2.1 with
      | true => rfl
      | false => rw [h, if_neg (by decide)] at ht2; rw [ht2] at h2; cases h2
    have hn : P + 32 + L ≤ x3.1.1.n := by
      rw [ho, if_pos rfl] at ht2
      rw [ht2] at h2
      have := of_decide_eq_true h2
      omega
    refine ⟨⟨rfl, rfl⟩, ⟨rfl, rfl⟩, ⟨rfl, rfl⟩, ⟨rfl, rfl⟩, fun v4 hv4 => ?_⟩
    have e4 : v4 = ((P + 32 : Nat) : Int) := by rw [hv4, w64_id (by omega) (by omega), hPe]; omega
    have t1 : v2.toNat - v4.toNat = L := by rw [e2, e4]; omega
    have t2 : (if x3.1.1.c = v4.toNat then 0 else v4.toNat) = P + 32 := by
      have : v4.toNat = P + 32 := by rw [e4]; omega
      rw [this, if_neg (by omega)]
    rw [t1, t2]
    refine ⟨by omega, by omega, by omega, by omega, fun b4 => ⟨⟨⟨rfl, rfl⟩, fun h => h, rfl, Nat.le_refl _, Nat.le_refl _, by omega, by omega, ?_, ⟨rfl, rfl⟩, fun b5 b6 b7 h7 _ _ => ⟨fun b8 => ⟨⟨⟨rfl, rfl⟩, fun h => h, rfl, Nat.le_refl _, Nat.le_refl _, by omega, by omega, Nat.le_refl _, ⟨rfl, rfl⟩, fun b9 b10 b11 h11 _ _ => ⟨⟨rfl, rfl⟩, ⟨rfl, rfl⟩, ?_⟩⟩, trivial⟩, trivial⟩⟩, trivial⟩, trivial⟩
    · show P + 31 + 1 + L ≤ x3.1.1.m
      omega
    · refine feedr_Q3_ok hLn (by omega) e2 e4 (by omega) c2 h11 ?_ ?_
      · rw [e2]
        exact feedRL_emit (x := (x3.1.2.2.1, x3.1.2.2.2.2.1, b5, b6, b7, fun j => x3.1.1.f (P + 32 + j))) hLn (by omega) hx3 hPe ho hn ⟨rfl, rfl, fun _ _ => rfl⟩ h11
      · rw [ho, if_pos rfl, hPe, e2]
        rw [Int.toNat_natCast, Int.toNat_natCast]
        omega
  · refine ⟨⟨rfl, rfl⟩, ⟨rfl, rfl⟩, ⟨rfl, fun _ _ => rfl⟩, fun x1' hx1' => ?_⟩
    have hx1 : x1'.1 = RD.upd (fb, fo, ((L : Int), ⟨b, off, n, c, z, m, cap, ez, f⟩, lk, pl, op, wg, ms, ())) x3.1 := by rw [hx1']; rfl
    rw [hx1]
    have hok : (RD.upd (fb, fo, ((L : Int), ⟨b, off, n, c, z, m, cap, ez, f⟩, lk, pl, op, wg, ms, ())) x3.1).ok := ⟨⟨c1, c2, c3, c4⟩, c5, c6, c7, c8, c9, c10, c11⟩
    refine ⟨hok, fun (y1 : RD × Bool) hy1 t3 ht3 => ?_⟩
    obtain ⟨g1, g2, g3, g4, g5, g6⟩ := RD.exam_keep hok
    rw [← hy1] at g1 g2 g3 g4 g5 g6
    have g4' : y1.1.l = x3.1.1 := g4
    have hm : y1.1.l.m ≤ y1.1.l.cap := by rw [g4']; exact c2
    have hI : feedRInv y1.1 (n + rn) := ⟨g6, by rw [g4']; exact q2, by rw [g4']; exact q3⟩
    refine ⟨fun h4 => ?_, fun h4 => ?_⟩
    · have hf : (RD.exam (RD.upd (fb, fo, ((L : Int), ⟨b, off, n, c, z, m, cap, ez, f⟩, lk, pl, op, wg, ms, ())) x3.1)).2 = false := by rw [← hy1, ← ht3]; simpa using h4
      obtain ⟨k1, k2⟩ := RD.exam_false (L := L) hok hf (fun ho => by
        have ho : x3.1.2.2.2.1 = true := ho
        rw [ho, if_pos rfl] at ht2
        rw [ht2] at h2
        have := of_decide_eq_false h2
        show ¬ x3.1.2.2.1 + 32 + (L : Int) ≤ (x3.1.1.n : Int)
        omega)
      refine feedr_Q4_ok hs g1 g2 g3 hm z4 ?_
      unfold feedRP
      rw [if_pos hs]
      have hy : y1.1 = RD.upd (fb, fo, ((L : Int), ⟨b, off, n, c, z, m, cap, ez, f⟩, lk, pl, op, wg, ms, ())) x3.1 := by rw [hy1]; exact k1
      have ha : (RD.upd (fb, fo, ((L : Int), ⟨b, off, n, c, z, m, cap, ez, f⟩, lk, pl, op, wg, ms, ())) y1.1.ry).abs = (RD.upd (fb, fo, ((L : Int), ⟨b, off, n, c, z, m, cap, ez, f⟩, lk, pl, op, wg, ms, ())) x3.1).abs := by rw [hy]; rfl
      refine ⟨⟨?_, ?_⟩, hI, z4, hk33, z6⟩
      · show Steps (Int.toNat (L : Int)) _ (bkL (Int.toNat (L : Int)) x3.2.2.2 x3.2.1) _
        rw [hLn, ha]; exact z1
      · show mstp (Int.toNat (L : Int)) _ = none
        rw [hLn, ha]; exact k2
    · have ht : (RD.exam (RD.upd (fb, fo, ((L : Int), ⟨b, off, n, c, z, m, cap, ez, f⟩, lk, pl, op, wg, ms, ())) x3.1)).2 = true := by rw [← hy1, ← ht3]; simpa using h4
      obtain ⟨k1, k2, k3⟩ := RD.exam_true (L := L) hok ht
      rw [← hy1] at k1 k3
      have k2 : x3.1.2.2.2.1 = false := k2
      have g5 : x3.1.2.2.1 ≤ y1.1.pl := g5
      refine feedr_Q5_ok g1 g2 g3 hm z4 ⟨?_, hI, z4, ?_, z6⟩ ?_
      · show Steps (Int.toNat (L : Int)) _ (bkL (Int.toNat (L : Int)) x3.2.2.2 x3.2.1) _
        rw [hLn]
        have := z1.trans k1
        rw [List.append_nil] at this
        exact this
      · show ((33 * x3.2.1 : Nat) : Int) ≤ y1.1.pl
        omega
      · rw [g4', k2]
        rcases k3 with ⟨k3, k4⟩ | ⟨k3, k4, k5⟩
        · have k3 : y1.1.pl = x3.1.2.2.1 := k3
          rw [k3, k4]
          show 2 * (x3.1.1.n - x3.1.2.2.1.toNat) + 0 < 2 * (x3.1.1.n - x3.1.2.2.1.toNat) + 1
          omega
        · have k3 : y1.1.pl = x3.1.2.2.1 + 1 := k3
          have k5 : x3.1.2.2.1 + 1 ≤ (x3.1.1.n : Int) := k5
          rw [k3, k4]
          show 2 * (x3.1.1.n - (x3.1.2.2.1 + 1).toNat) + 1 < 2 * (x3.1.1.n - x3.1.2.2.1.toNat) + 1
          omega
end Mk
