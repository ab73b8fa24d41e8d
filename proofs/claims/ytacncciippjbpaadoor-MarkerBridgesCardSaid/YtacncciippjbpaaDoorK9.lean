/-
  OWN WORK. Marker: Feed of the program.
-/
import Derived.Test.YtacncciippjbpaaDoorK8
namespace Mk
open Go Go.Proofs Eng
set_option linter.unusedVariables false
set_option linter.unusedSimpArgs false
set_option maxRecDepth 100000
set_option maxHeartbeats 8000000

/-! ### the finder as a machine -/
def FD.abs (d : FD) : St := ⟨rowL d.l.f d.l.n, d.pl, d.op, if d.op = true then d.wg else 0, d.ms, d.lk⟩
theorem cut_rowL (l : OwnD Int) (k : Nat) : rowL (FD.cut l k).f (l.n - k) = (rowL l.f l.n).drop k := by
  rw [rowL_drop]
  refine rowL_congr fun i hi => ?_
  show (if i < l.n - k then l.f (i + k) else l.f i) = _
  rw [if_pos hi, Nat.add_comm]
theorem abs_adv (d : FD) (k : Nat) : (d.adv k).abs = ⟨(rowL d.l.f d.l.n).drop k, d.pl + k, d.op, if d.op = true then d.wg else 0, d.ms, d.lk⟩ := by
  unfold FD.abs
  show St.mk (rowL (FD.cut d.l k).f (d.l.n - k)) _ _ _ _ _ = _
  rw [cut_rowL]
  rfl
theorem cnt_drop {f : Nat → Int} {n k : Nat} (h : k + 32 ≤ n) : cnt ((rowL f n).drop k) = wrA f k := wr_congr fun i hi => by
  rw [rowL_drop, rowL_get _ (by omega)]
theorem scan_steps {d : FD} {len k : Nat} (ho : d.op = false) (hl : d.lk = false) (h : scan d k) : Steps len d.abs [] (d.adv k).abs := by
  obtain ⟨h1, _, _⟩ := h
  have key : ∀ j, j ≤ k → Steps len (d.adv 0).abs [] (d.adv j).abs := by
    intro j
    induction j with
    | zero => exact fun _ => .refl _
    | succ j ih =>
      intro hj
      have hs := ih (by omega)
      obtain ⟨a, b⟩ := h1 j (by omega)
      have : mstp len (d.adv j).abs = some ((d.adv (j + 1)).abs, []) := by
        rw [abs_adv, abs_adv]
        unfold mstp
        dsimp only
        rw [if_neg (by rw [ho]; decide), if_neg (by rw [List.length_drop, rowL_len]; omega), cnt_drop a, if_neg (by omega), if_pos hl, List.drop_drop, ho, hl]
        have : d.pl + (j : Int) + 1 = d.pl + ((j + 1 : Nat) : Int) := by omega
        rw [this]
        rfl
      exact hs.trans (Steps.one this)
  have h0 : (d.adv 0).abs = d.abs := by
    rw [abs_adv]
    unfold FD.abs
    simp
  rw [← h0]
  exact key k (Nat.le_refl _)
theorem look_step {d : FD} {len : Nat} (ho : d.op = false) (hn : ¬ d.l.n < 32) (hc : d.lk = true ∨ wrA d.l.f 0 ≤ 2) : Steps len d.abs [] d.look.abs := by
  have c0 : cnt (rowL d.l.f d.l.n) = wrA d.l.f 0 := by
    have := cnt_drop (f := d.l.f) (n := d.l.n) (k := 0) (by omega)
    rwa [List.drop_zero] at this
  refine Steps.one ?_
  have hs : mstp len d.abs = if wrA d.l.f 0 ≤ 2 then some (⟨rowL d.l.f d.l.n, d.pl, true, (wrA d.l.f 0 : Nat), 0, true⟩, []) else if d.lk = false then some (⟨(rowL d.l.f d.l.n).drop 1, d.pl + 1, false, 0, d.ms, false⟩, []) else if d.ms + 1 = 3 then some (⟨rowL d.l.f d.l.n, d.pl, false, 0, 3, false⟩, []) else some (⟨rowL d.l.f d.l.n, d.pl, true, (wrA d.l.f 0 : Nat), d.ms + 1, true⟩, []) := by
    unfold mstp FD.abs
    dsimp only
    rw [if_neg (by rw [ho]; decide), if_neg (by rw [rowL_len]; exact hn), c0]
  rw [hs]
  by_cases h1 : wrA d.l.f 0 ≤ 2
  · rw [if_pos h1, look1 h1]; rfl
  · have hl : d.lk = true := hc.resolve_right h1
    rw [if_neg h1, if_neg (by rw [hl]; decide)]
    by_cases h2 : d.ms + 1 = 3
    · rw [if_pos h2, look2 h1 h2]
      show some (St.mk _ _ _ _ _ _, _) = some (St.mk (rowL d.l.f d.l.n) d.pl d.op (if d.op = true then _ else 0) (d.ms + 1) false, _)
      rw [ho, h2]; rfl
    · rw [if_neg h2, look3 h1 h2]
      show some (St.mk _ _ _ _ _ _, _) = some (St.mk (rowL d.l.f d.l.n) d.pl true _ (d.ms + 1) d.lk, _)
      rw [hl]; rfl
theorem exam_steps {d : FD} {y : FD × Bool} {len : Nat} (ho : d.op = false) (h : exam d y) : Steps len d.abs [] y.1.abs ∧ (y.2 = false → mstp len y.1.abs = none ∧ y.1.op = false) := by
  obtain ⟨k, h1, h2⟩ := h
  have hst : Steps len d.abs [] (d.adv k).abs := by
    by_cases hl : d.lk = true
    · rw [if_pos hl] at h1
      subst h1
      have : (d.adv 0).abs = d.abs := by rw [abs_adv]; unfold FD.abs; simp
      rw [this]
      exact .refl _
    · rw [if_neg hl] at h1
      exact scan_steps ho (by simpa using hl) h1
  by_cases hn : (d.adv k).l.n < 32
  · rw [if_pos hn] at h2
    subst h2
    refine ⟨hst, fun _ => ⟨?_, ho⟩⟩
    unfold mstp FD.abs
    dsimp only
    rw [if_neg (by show ¬ d.op = true; rw [ho]; decide), if_pos (by rw [rowL_len]; exact hn)]
  · rw [if_neg hn] at h2
    subst h2
    refine ⟨?_, fun h => by cases h⟩
    have hc : (d.adv k).lk = true ∨ wrA (d.adv k).l.f 0 ≤ 2 := by
      by_cases hl : d.lk = true
      · exact .inl hl
      · rw [if_neg hl] at h1
        refine .inr ?_
        have hn' : ¬ d.l.n - k < 32 := hn
        have h3 := h1.2.1.resolve_left (by omega)
        have : wrA (d.adv k).l.f 0 = wrA d.l.f k := wr_congr fun i hi => by
          show (if 0 + i < d.l.n - k then d.l.f (0 + i + k) else _) = _
          rw [if_pos (by omega), Nat.zero_add, Nat.add_comm]
        rw [this]
        exact h3
    have := hst.trans (look_step (len := len) (d := d.adv k) ho hn hc)
    exact this
/-- .. what stays the same. -/
theorem exam_keeps {d : FD} {y : FD × Bool} (h : exam d y) : ∃ k, k ≤ d.l.n ∧ y.1.l = FD.cut d.l k ∧ y.1.pl = d.pl + k ∧ y.1.tk = d.tk ∧ y.1.len = d.len ∧ y.1.gv = d.gv ∧ y.1.1 = d.1 ∧ y.1.2.1 = d.2.1 ∧ y.1.sb = d.sb ∧ y.1.so = d.so := by
  obtain ⟨k, h1, h2⟩ := h
  have hk : k ≤ d.l.n := by
    by_cases hl : d.lk = true
    · rw [if_pos hl] at h1; omega
    · rw [if_neg hl] at h1; exact h1.2.2
  refine ⟨k, hk, ?_⟩
  by_cases hn : (d.adv k).l.n < 32
  · rw [if_pos hn] at h2
    subst h2
    exact ⟨rfl, rfl, rfl, rfl, rfl, rfl, rfl, rfl, rfl⟩
  · rw [if_neg hn] at h2
    subst h2
    unfold FD.look
    split
    · exact ⟨rfl, rfl, rfl, rfl, rfl, rfl, rfl, rfl, rfl⟩
    · split
      · exact ⟨rfl, rfl, rfl, rfl, rfl, rfl, rfl, rfl, rfl⟩
      · exact ⟨rfl, rfl, rfl, rfl, rfl, rfl, rfl, rfl, rfl⟩
/-! ### Feed -/
/-- A block in memory: place, wrong bits, where its values lie (block, cell, room), its values. -/
abbrev BD := Int × Int × Nat × Nat × Nat × (Nat → Int)
def bkL (len : Nat) (B : Nat → BD) : Nat → List Bk
  | 0 => []
  | k + 1 => bkL len B k ++ [⟨(B k).1, (B k).2.1, rowL (B k).2.2.2.2.2 len⟩]
theorem bkL_congr {len : Nat} {B B' : Nat → BD} : ∀ {k : Nat}, (∀ i, i < k → B i = B' i) → bkL len B k = bkL len B' k
  | 0, _ => rfl
  | k + 1, h => by rw [bkL, bkL, bkL_congr fun i hi => h i (by omega), h k (by omega)]
theorem bkL_len (len : Nat) (B : Nat → BD) : ∀ k, (bkL len B k).length = k
  | 0 => rfl
  | k + 1 => by rw [bkL, List.length_append, bkL_len len B k]; rfl
abbrev bVal (len : Nat) (gf : Nat) (B : Nat → BD) (i : Nat) : SV := .agg [.int .i64 (B i).1, .int .i64 (B i).2.1, .slice gf (B i).2.2.1 (B i).2.2.2.1 [.elt i 0] 1 0 len (B i).2.2.2.2.1 false]
abbrev bRow (len : Nat) (g gf k : Nat) (A : Nat × Nat × Nat) (B : Nat → BD) : Ent := ⟨g, A.1, A.2.1, 3, k, bVal len gf B, true, false, A.2.2, 50, Nat.beq k 0, none⟩
abbrev bFam (len : Nat) (gf k : Nat) (B : Nat → BD) : Ent := ⟨gf, 0, 0, 0, k, fun i => .arr len 1 fun j => .int .i64 ((B i).2.2.2.2.2 j), true, false, 0, 3, false, some fun i => ((B i).2.2.1, (B i).2.2.2.1)⟩
abbrev bSlice (g k : Nat) (A : Nat × Nat × Nat) : SV := .slice g A.1 A.2.1 [] 3 0 k A.2.2 (Nat.beq k 0)
/-- What of a finder changes. -/
abbrev FY := Int × Bool × OwnD Int × Int × Bool × Int × Int
def FD.upd (d : FD) (y : FY) (gv : Nat × Nat) : FD := FD.mk d.1 d.2.1 d.sb d.so y.1 y.2.1 d.len y.2.2.1 y.2.2.2.1 y.2.2.2.2.1 y.2.2.2.2.2.1 y.2.2.2.2.2.2 gv
/-- A finder whose function is not looked at. -/
abbrev aFinV : Arg (Nat × Nat × ((Nat × Nat × (Int × Bool × Unit)) × Int × OwnD Int × Int × Bool × Int × Int × Value × Unit)) :=
  .optr 62 8 (.agg (.cons (.optr 69 2 (.agg (.cons (.elt (.int .i64)) (.cons (.elt .bool) .nil)))) (.cons (.elt (.int .i64)) (.cons (.orow 3 (.int .i64)) (.cons (.elt (.int .i64)) (.cons (.elt .bool) (.cons (.elt (.int .i64)) (.cons (.elt (.int .i64)) (.cons .any .nil)))))))))
abbrev FV := Nat × Nat × ((Nat × Nat × (Int × Bool × Unit)) × Int × OwnD Int × Int × Bool × Int × Int × Value × Unit)
def FV.fd (d : FV) : FD := (d.1, d.2.1, (d.2.2.1, d.2.2.2.1, d.2.2.2.2.1, d.2.2.2.2.2.1, d.2.2.2.2.2.2.1, d.2.2.2.2.2.2.2.1, d.2.2.2.2.2.2.2.2.1, (0, 0), ()))
def FV.upd (d : FV) (y : FY) (v : Value) : FV := (d.1, d.2.1, ((d.2.2.1.1, d.2.2.1.2.1, (y.1, y.2.1, ())), d.2.2.2.1, y.2.2.1, y.2.2.2.1, y.2.2.2.2.1, y.2.2.2.2.2.1, y.2.2.2.2.2.2, v, ()))
abbrev aFV : ArgL (FV × Unit) := .cons aFinV .nil
def clV (g : Nat × Nat) : Value := (SV.fn (.func 38) [] [.ptr 900001 g.1 g.2 [.elt 0 1]]).den
abbrev aFeed : ArgL (FV × RowD Int × Unit) := .cons aFinV (.cons (.row (.int .i64)) .nil)
/-- The state of Feed's loop: the finder, how many blocks, where they lie, the variable's block, the blocks. -/
abbrev LX := FY × Nat × (Nat × Nat × Nat) × Nat × (Nat → BD)
def feedPre (d : FD) (r : RowD Int) : Prop := d.ok ∧ (d.l.z = true → d.l.n = 0) ∧ (d.ms < 3 ∨ d.lk = false) ∧ d.ms < 3 + 1 ∧ d.pl + d.l.n + r.n ≤ 1099511627776 ∧ 1 ≤ d.len ∧ d.len ≤ 20000
/-- What holds of a finder between two steps, n0 being all values' number. -/
def feedInv (d : FD) (e : Int) : Prop := d.ok ∧ (d.l.z = true → d.l.n = 0) ∧ (d.ms < 3 ∨ d.lk = false) ∧ d.pl + d.l.n = e
def feedL (d : FD) (r : RowD Int) (y : LX) : Prop := Steps d.len.toNat (d.abs.push (rowL r.f r.n)) (bkL d.len.toNat y.2.2.2.2 y.2.1) (d.upd y.1 (y.2.2.2.1, 0)).abs ∧ feedInv (d.upd y.1 (y.2.2.2.1, 0)) (d.pl + d.l.n + r.n) ∧ y.1.1 = IntKind.i64.wrap (d.tk + r.n) ∧ y.2.1 ≤ y.2.2.1.2.2 ∧ d.pl + ((33 * y.2.1 : Nat) : Int) ≤ y.1.2.2.2.1 ∧ (y.2.1 = 0 → y.2.2.1.2.2 = 0)
def feedP (d : FD) (r : RowD Int) (y : LX × (Nat × Nat)) : Prop := if softB r.f r.n = true then Runs d.len.toNat (d.abs.push (rowL r.f r.n)) (bkL d.len.toNat y.1.2.2.2.2 y.1.2.1) (d.upd y.1.1 y.2).abs ∧ feedInv (d.upd y.1.1 y.2) (d.pl + d.l.n + r.n) ∧ y.1.1.1 = IntKind.i64.wrap (d.tk + r.n) ∧ y.1.2.1 ≤ y.1.2.2.1.2.2 ∧ y.1.2.1 ≤ 33318534300 ∧ (y.1.2.1 = 0 → y.1.2.2.1.2.2 = 0)
  else d.upd y.1.1 y.2 = d ∧ y.1.2.1 = 0 ∧ y.1.2.2.1.2.2 = 0
def feedE (r : RowD Int) : Int := if softB r.f r.n = true then 0 else 2
def feed := ecC aFeed (fun x => [feedPre x.1.fd x.2.1]) (fun x (y : LX × Value) => feedP x.1.fd x.2.1 (y.1, (0, 0))) (fun x y => .tup [bSlice 4 y.1.2.1 y.1.2.2.1, .int .i64 (feedE x.2.1)]) (fun x y => Hp.app (Hp.owned (aFV.hp 0 (x.1.upd y.1.1 y.2, ()))) [bRow x.1.fd.len.toNat 4 5 y.1.2.1 y.1.2.2.1 y.1.2.2.2.2, bFam x.1.fd.len.toNat 5 y.1.2.1 y.1.2.2.2.2]) 2
def EF1 : Env := ((((EE.addP 36 conC).addE 40 clone).addE 39 examine).addP 35 noneC).inl 38 Tryd.f38 fun _ _ => []
theorem EF1_ok : EnvOk Tryd.prog EF1 := ((((EE_ok.addP con_ok).addE clone_ok).addE examine_ok).addP none_ok).inl _ Tryd.func38 rfl (by kernel_rfl)
def feed_Q1 (rb : Nat) (ro : Nat) (rn : Nat) (rc : Nat) (rz : Bool) (rf : Nat → Int) (fb : Nat) (fo : Nat) (sb : Nat) (so : Nat) (len : Int) (b : Nat) (off : Nat) (n : Nat) (c : Nat) (z : Bool) (pl : Int) (op : Bool) (wg : Int) (ms : Int) (gv : Go.Value) (tk : Int) (lk : Bool) (ez : Bool) (m : Nat) (cap : Nat) (f : Nat → Int) : Prop := ∃ (x1 : ((Int × Bool × Eng.OwnD Int × Int × Bool × Int × Int) ×
    Nat × (Nat × Nat × Nat) × Nat × (Nat → Int × Int × Nat × Nat × Nat × (Nat → Int))) × Go.Value), (Eng.SVeq (Eng.SV.slice (999999 : Nat) (0 : Nat) (0 : Nat) [] (0 : Nat) (0 : Nat) (0 : Nat) (0 : Nat) Bool.true) (Eng.SV.slice (4 : Nat) (Prod.fst (Prod.fst (Prod.snd (Prod.snd (Prod.fst x1))))) (Prod.fst (Prod.snd (Prod.fst (Prod.snd (Prod.snd (Prod.fst x1)))))) [] (3 : Nat) (0 : Nat) (Prod.fst
    (Prod.snd (Prod.fst x1))) (Prod.snd (Prod.snd (Prod.fst (Prod.snd (Prod.snd (Prod.fst x1)))))) (Nat.beq (Prod.fst (Prod.snd (Prod.fst x1))) (0 : Nat))) ∧ (1 : Int) = Mk.feedE (Eng.RowD.mk rb ro rn rc rz rf)) ∧ ((fb = fb ∧ fo = fo ∧ Bool.false = Bool.false ∧ (1 : Nat) ≤ (1 : Nat) ∧ (1 : Nat) ≤ (1 : Nat) ∧ (1 : Nat) ≤ (1 : Nat)) ∧ ((0 : Nat) = (0 : Nat) ∧ sb = sb ∧ so = so) ∧ len = len ∧ (b =
    Eng.OwnD.b (Prod.fst (Prod.snd (Prod.snd (Prod.fst (Prod.fst x1))))) ∧ off = Eng.OwnD.off (Prod.fst (Prod.snd (Prod.snd (Prod.fst (Prod.fst x1))))) ∧ (0 : Nat) = (0 : Nat) ∧ n = Eng.OwnD.n (Prod.fst (Prod.snd (Prod.snd (Prod.fst (Prod.fst x1))))) ∧ c = Eng.OwnD.c (Prod.fst (Prod.snd (Prod.snd (Prod.fst (Prod.fst x1))))) ∧ z = Eng.OwnD.z (Prod.fst (Prod.snd (Prod.snd (Prod.fst (Prod.fst x1)))))) ∧
    pl = Prod.fst (Prod.snd (Prod.snd (Prod.snd (Prod.fst (Prod.fst x1))))) ∧ op = Prod.fst (Prod.snd (Prod.snd (Prod.snd (Prod.snd (Prod.fst (Prod.fst x1)))))) ∧ wg = Prod.fst (Prod.snd (Prod.snd (Prod.snd (Prod.snd (Prod.snd (Prod.fst (Prod.fst x1))))))) ∧ ms = Prod.snd (Prod.snd (Prod.snd (Prod.snd (Prod.snd (Prod.snd (Prod.fst (Prod.fst x1))))))) ∧ Eng.SVeq (Eng.SV.val gv) (Eng.SV.val (Prod.snd
    x1))) ∧ ((sb = sb ∧ so = so ∧ Bool.false = Bool.false ∧ (1 : Nat) ≤ (1 : Nat) ∧ (1 : Nat) ≤ (1 : Nat) ∧ (1 : Nat) ≤ (1 : Nat)) ∧ tk = Prod.fst (Prod.fst (Prod.fst x1)) ∧ lk = Prod.fst (Prod.snd (Prod.fst (Prod.fst x1)))) ∧ ((b = Eng.OwnD.b (Prod.fst (Prod.snd (Prod.snd (Prod.fst (Prod.fst x1))))) ∧ off = Eng.OwnD.off (Prod.fst (Prod.snd (Prod.snd (Prod.fst (Prod.fst x1))))) ∧ ez = Eng.OwnD.ez
    (Prod.fst (Prod.snd (Prod.snd (Prod.fst (Prod.fst x1))))) ∧ Eng.OwnD.m (Prod.fst (Prod.snd (Prod.snd (Prod.fst (Prod.fst x1))))) ≤ m ∧ Eng.OwnD.m (Prod.fst (Prod.snd (Prod.snd (Prod.fst (Prod.fst x1))))) ≤ Eng.OwnD.cap (Prod.fst (Prod.snd (Prod.snd (Prod.fst (Prod.fst x1))))) ∧ Eng.OwnD.cap (Prod.fst (Prod.snd (Prod.snd (Prod.fst (Prod.fst x1))))) ≤ cap) ∧ ∀ (i1 : Nat), i1 < Eng.OwnD.m (Prod.fst
    (Prod.snd (Prod.snd (Prod.fst (Prod.fst x1))))) → f i1 = Eng.OwnD.f (Prod.fst (Prod.snd (Prod.snd (Prod.fst (Prod.fst x1))))) i1) ∧ (Nat.beq (Prod.fst (Prod.snd (Prod.fst x1))) (0 : Nat) = Bool.true ∧ Prod.fst (Prod.snd (Prod.fst x1)) = (0 : Nat) ∧ Prod.snd (Prod.snd (Prod.fst (Prod.snd (Prod.snd (Prod.fst x1))))) = (0 : Nat)) ∧ (∀ (i2 : Nat), i2 < Prod.fst (Prod.snd (Prod.fst x1)) → False) ∧
    Mk.feedP (Mk.FV.fd (fb, fo, (sb, so, tk, lk, ()), len, Eng.OwnD.mk b off n c z m cap ez f, pl, op, wg, ms, gv, ())) (Eng.RowD.mk rb ro rn rc rz rf) (Prod.fst x1, (0 : Nat), (0 : Nat))
def feed_Q2 (rb : Nat) (ro : Nat) (rn : Nat) (rc : Nat) (rz : Bool) (rf : Nat → Int) (fb : Nat) (fo : Nat) (sb : Nat) (so : Nat) (len : Int) (b : Nat) (off : Nat) (n : Nat) (c : Nat) (z : Bool) (pl : Int) (op : Bool) (wg : Int) (ms : Int) (gv : Go.Value) (tk : Int) (lk : Bool) (ez : Bool) (m : Nat) (cap : Nat) (f : Nat → Int) : Prop := ∃ (x2 : ((Int × Bool × Eng.OwnD Int × Int × Bool × Int × Int) ×
    Nat × (Nat × Nat × Nat) × Nat × (Nat → Int × Int × Nat × Nat × Nat × (Nat → Int))) × Go.Value), (Eng.SVeq (Eng.SV.slice (999999 : Nat) (0 : Nat) (0 : Nat) [] (0 : Nat) (0 : Nat) (0 : Nat) (0 : Nat) Bool.true) (Eng.SV.slice (4 : Nat) (Prod.fst (Prod.fst (Prod.snd (Prod.snd (Prod.fst x2))))) (Prod.fst (Prod.snd (Prod.fst (Prod.snd (Prod.snd (Prod.fst x2)))))) [] (3 : Nat) (0 : Nat) (Prod.fst
    (Prod.snd (Prod.fst x2))) (Prod.snd (Prod.snd (Prod.fst (Prod.snd (Prod.snd (Prod.fst x2)))))) (Nat.beq (Prod.fst (Prod.snd (Prod.fst x2))) (0 : Nat))) ∧ (2 : Int) = Mk.feedE (Eng.RowD.mk rb ro rn rc rz rf)) ∧ ((fb = fb ∧ fo = fo ∧ Bool.false = Bool.false ∧ (1 : Nat) ≤ (1 : Nat) ∧ (1 : Nat) ≤ (1 : Nat) ∧ (1 : Nat) ≤ (1 : Nat)) ∧ ((0 : Nat) = (0 : Nat) ∧ sb = sb ∧ so = so) ∧ len = len ∧ (b =
    Eng.OwnD.b (Prod.fst (Prod.snd (Prod.snd (Prod.fst (Prod.fst x2))))) ∧ off = Eng.OwnD.off (Prod.fst (Prod.snd (Prod.snd (Prod.fst (Prod.fst x2))))) ∧ (0 : Nat) = (0 : Nat) ∧ n = Eng.OwnD.n (Prod.fst (Prod.snd (Prod.snd (Prod.fst (Prod.fst x2))))) ∧ c = Eng.OwnD.c (Prod.fst (Prod.snd (Prod.snd (Prod.fst (Prod.fst x2))))) ∧ z = Eng.OwnD.z (Prod.fst (Prod.snd (Prod.snd (Prod.fst (Prod.fst x2)))))) ∧
    pl = Prod.fst (Prod.snd (Prod.snd (Prod.snd (Prod.fst (Prod.fst x2))))) ∧ op = Prod.fst (Prod.snd (Prod.snd (Prod.snd (Prod.snd (Prod.fst (Prod.fst x2)))))) ∧ wg = Prod.fst (Prod.snd (Prod.snd (Prod.snd (Prod.snd (Prod.snd (Prod.fst (Prod.fst x2))))))) ∧ ms = Prod.snd (Prod.snd (Prod.snd (Prod.snd (Prod.snd (Prod.snd (Prod.fst (Prod.fst x2))))))) ∧ Eng.SVeq (Eng.SV.val gv) (Eng.SV.val (Prod.snd
    x2))) ∧ ((sb = sb ∧ so = so ∧ Bool.false = Bool.false ∧ (1 : Nat) ≤ (1 : Nat) ∧ (1 : Nat) ≤ (1 : Nat) ∧ (1 : Nat) ≤ (1 : Nat)) ∧ tk = Prod.fst (Prod.fst (Prod.fst x2)) ∧ lk = Prod.fst (Prod.snd (Prod.fst (Prod.fst x2)))) ∧ ((b = Eng.OwnD.b (Prod.fst (Prod.snd (Prod.snd (Prod.fst (Prod.fst x2))))) ∧ off = Eng.OwnD.off (Prod.fst (Prod.snd (Prod.snd (Prod.fst (Prod.fst x2))))) ∧ ez = Eng.OwnD.ez
    (Prod.fst (Prod.snd (Prod.snd (Prod.fst (Prod.fst x2))))) ∧ Eng.OwnD.m (Prod.fst (Prod.snd (Prod.snd (Prod.fst (Prod.fst x2))))) ≤ m ∧ Eng.OwnD.m (Prod.fst (Prod.snd (Prod.snd (Prod.fst (Prod.fst x2))))) ≤ Eng.OwnD.cap (Prod.fst (Prod.snd (Prod.snd (Prod.fst (Prod.fst x2))))) ∧ Eng.OwnD.cap (Prod.fst (Prod.snd (Prod.snd (Prod.fst (Prod.fst x2))))) ≤ cap) ∧ ∀ (i3 : Nat), i3 < Eng.OwnD.m (Prod.fst
    (Prod.snd (Prod.snd (Prod.fst (Prod.fst x2))))) → f i3 = Eng.OwnD.f (Prod.fst (Prod.snd (Prod.snd (Prod.fst (Prod.fst x2))))) i3) ∧ (Nat.beq (Prod.fst (Prod.snd (Prod.fst x2))) (0 : Nat) = Bool.true ∧ Prod.fst (Prod.snd (Prod.fst x2)) = (0 : Nat) ∧ Prod.snd (Prod.snd (Prod.fst (Prod.snd (Prod.snd (Prod.fst x2))))) = (0 : Nat)) ∧ (∀ (i4 : Nat), i4 < Prod.fst (Prod.snd (Prod.fst x2)) → False) ∧
    Mk.feedP (Mk.FV.fd (fb, fo, (sb, so, tk, lk, ()), len, Eng.OwnD.mk b off n c z m cap ez f, pl, op, wg, ms, gv, ())) (Eng.RowD.mk rb ro rn rc rz rf) (Prod.fst x2, (0 : Nat), (0 : Nat))
def feed_Q3 (b2 : Nat) (fb : Nat) (fo : Nat) (sb : Nat) (so : Nat) (len : Int) (b3 : Nat) (b4 : Nat) (n : Nat) (rn : Nat) (b5 : Nat) (z : Bool) (pl : Int) (op : Bool) (wg : Int) (ms : Int) (v2 : Int) (lk : Bool) (ez : Bool) (f : Nat → Int) (rf : Nat → Int) (tk : Int) (b : Nat) (off : Nat) (c : Nat) (m : Nat) (cap : Nat) (gv : Go.Value) : Prop := ∃ (x3 : (Int × Bool × Eng.OwnD Int × Int × Bool × Int
    × Int) × Nat × (Nat × Nat × Nat) × Nat × (Nat → Int × Int × Nat × Nat × Nat × (Nat → Int))), ((0 : Nat) = (0 : Nat) ∧ b2 = Prod.fst (Prod.snd (Prod.snd (Prod.snd x3))) ∧ (0 : Nat) = (0 : Nat)) ∧ ((b2 = Prod.fst (Prod.snd (Prod.snd (Prod.snd x3))) ∧ (0 : Nat) = (0 : Nat) ∧ Bool.false = Bool.false ∧ (1 : Nat) ≤ (1 : Nat) ∧ (1 : Nat) ≤ (1 : Nat) ∧ (1 : Nat) ≤ (1 : Nat)) ∧ Eng.SVeq (Eng.SV.slice
    (999999 : Nat) (0 : Nat) (0 : Nat) [] (0 : Nat) (0 : Nat) (0 : Nat) (0 : Nat) Bool.true) (Eng.SV.slice (800 : Nat) (Prod.fst (Prod.fst (Prod.snd (Prod.snd x3)))) (Prod.fst (Prod.snd (Prod.fst (Prod.snd (Prod.snd x3))))) [] (3 : Nat) (0 : Nat) (Prod.fst (Prod.snd x3)) (Prod.snd (Prod.snd (Prod.fst (Prod.snd (Prod.snd x3))))) (Nat.beq (Prod.fst (Prod.snd x3)) (0 : Nat)))) ∧ (Nat.beq (Prod.fst
    (Prod.snd x3)) (0 : Nat) = Bool.true ∧ Prod.fst (Prod.snd x3) = (0 : Nat) ∧ Prod.snd (Prod.snd (Prod.fst (Prod.snd (Prod.snd x3)))) = (0 : Nat)) ∧ (∀ (i5 : Nat), i5 < Prod.fst (Prod.snd x3) → False) ∧ ((fb = fb ∧ fo = fo ∧ Bool.false = Bool.false ∧ (1 : Nat) ≤ (1 : Nat) ∧ (1 : Nat) ≤ (1 : Nat) ∧ (1 : Nat) ≤ (1 : Nat)) ∧ ((0 : Nat) = (0 : Nat) ∧ sb = sb ∧ so = so) ∧ len = len ∧ (b3 = Eng.OwnD.b
    (Prod.fst (Prod.snd (Prod.snd (Prod.fst x3)))) ∧ b4 = Eng.OwnD.off (Prod.fst (Prod.snd (Prod.snd (Prod.fst x3)))) ∧ (0 : Nat) = (0 : Nat) ∧ n + rn = Eng.OwnD.n (Prod.fst (Prod.snd (Prod.snd (Prod.fst x3)))) ∧ b5 = Eng.OwnD.c (Prod.fst (Prod.snd (Prod.snd (Prod.fst x3)))) ∧ (z && Decidable.decide (rn = (0 : Nat))) = Eng.OwnD.z (Prod.fst (Prod.snd (Prod.snd (Prod.fst x3))))) ∧ pl = Prod.fst (Prod.snd
    (Prod.snd (Prod.snd (Prod.fst x3)))) ∧ op = Prod.fst (Prod.snd (Prod.snd (Prod.snd (Prod.snd (Prod.fst x3))))) ∧ wg = Prod.fst (Prod.snd (Prod.snd (Prod.snd (Prod.snd (Prod.snd (Prod.fst x3)))))) ∧ ms = Prod.snd (Prod.snd (Prod.snd (Prod.snd (Prod.snd (Prod.snd (Prod.fst x3)))))) ∧ Eng.SVeq (Eng.SV.fn (Go.Fn.func (38 : Nat)) [] [Eng.SV.ptr (900001 : Nat) b2 (0 : Nat) [Eng.PS.elt (0 : Nat) (1 :
    Nat)]]) (Eng.SV.fn (Go.Fn.func (38 : Go.FuncId)) [] [Eng.SV.ptr (900001 : Nat) (Prod.fst (Prod.snd (Prod.snd (Prod.snd x3)))) (0 : Nat) [Eng.PS.elt (0 : Nat) (1 : Nat)]])) ∧ ((sb = sb ∧ so = so ∧ Bool.false = Bool.false ∧ (1 : Nat) ≤ (1 : Nat) ∧ (1 : Nat) ≤ (1 : Nat) ∧ (1 : Nat) ≤ (1 : Nat)) ∧ v2 = Prod.fst (Prod.fst x3) ∧ lk = Prod.fst (Prod.snd (Prod.fst x3))) ∧ ((b3 = Eng.OwnD.b (Prod.fst
    (Prod.snd (Prod.snd (Prod.fst x3)))) ∧ b4 = Eng.OwnD.off (Prod.fst (Prod.snd (Prod.snd (Prod.fst x3)))) ∧ (ez && Decidable.decide (rn = (0 : Nat))) = Eng.OwnD.ez (Prod.fst (Prod.snd (Prod.snd (Prod.fst x3)))) ∧ Eng.OwnD.m (Prod.fst (Prod.snd (Prod.snd (Prod.fst x3)))) ≤ n + rn ∧ Eng.OwnD.m (Prod.fst (Prod.snd (Prod.snd (Prod.fst x3)))) ≤ Eng.OwnD.cap (Prod.fst (Prod.snd (Prod.snd (Prod.fst x3)))) ∧
    Eng.OwnD.cap (Prod.fst (Prod.snd (Prod.snd (Prod.fst x3)))) ≤ b5) ∧ ∀ (i6 : Nat), i6 < Eng.OwnD.m (Prod.fst (Prod.snd (Prod.snd (Prod.fst x3)))) → (if i6 < n then f i6 else rf (i6 - n)) = Eng.OwnD.f (Prod.fst (Prod.snd (Prod.snd (Prod.fst x3)))) i6) ∧ Mk.Steps (Int.toNat len) (Mk.St.push (Mk.FD.abs (Mk.FV.fd (fb, fo, (sb, so, tk, lk, ()), len, Eng.OwnD.mk b off n c z m cap ez f, pl, op, wg, ms, gv,
    ()))) (Mk.rowL rf rn)) (Mk.bkL (Int.toNat len) (Prod.snd (Prod.snd (Prod.snd (Prod.snd x3)))) (Prod.fst (Prod.snd x3))) (Mk.FD.abs (Mk.FD.upd (Mk.FV.fd (fb, fo, (sb, so, tk, lk, ()), len, Eng.OwnD.mk b off n c z m cap ez f, pl, op, wg, ms, gv, ())) (Prod.fst x3) (Prod.fst (Prod.snd (Prod.snd (Prod.snd x3))), (0 : Nat)))) ∧ Mk.feedInv (Mk.FD.upd (Mk.FV.fd (fb, fo, (sb, so, tk, lk, ()), len,
    Eng.OwnD.mk b off n c z m cap ez f, pl, op, wg, ms, gv, ())) (Prod.fst x3) (Prod.fst (Prod.snd (Prod.snd (Prod.snd x3))), (0 : Nat))) (pl + (↑n : Int) + (↑rn : Int)) ∧ Prod.fst (Prod.fst x3) = Go.IntKind.wrap Go.IntKind.i64 (tk + (↑rn : Int)) ∧ Prod.fst (Prod.snd x3) ≤ Prod.snd (Prod.snd (Prod.fst (Prod.snd (Prod.snd x3)))) ∧ pl + (↑((33 : Nat) * Prod.fst (Prod.snd x3)) : Int) ≤ Prod.fst (Prod.snd
    (Prod.snd (Prod.snd (Prod.fst x3)))) ∧ (Prod.fst (Prod.snd x3) = (0 : Nat) → Prod.snd (Prod.snd (Prod.fst (Prod.snd (Prod.snd x3)))) = (0 : Nat))
def feed_Q4 (x4 : (Int × Bool × Eng.OwnD Int × Int × Bool × Int × Int) × Nat × (Nat × Nat × Nat) × Nat × (Nat → Int × Int × Nat × Nat × Nat × (Nat → Int))) (len : Int) (y1 : (Nat × Nat × (Nat × Nat × Int × Bool × Unit) × Int × Eng.OwnD Int × Int × Bool × Int × Int × (Nat × Nat) × Unit) × Bool) (fb : Nat) (fo : Nat) (sb : Nat) (so : Nat) (tk : Int) (lk : Bool) (b : Nat) (off : Nat) (n : Nat) (c :
    Nat) (z : Bool) (m : Nat) (cap : Nat) (ez : Bool) (f : Nat → Int) (pl : Int) (op : Bool) (wg : Int) (ms : Int) (gv : Go.Value) (rb : Nat) (ro : Nat) (rn : Nat) (rc : Nat) (rz : Bool) (rf : Nat → Int) : Prop := ∃ (x5 : (Int × Bool × Eng.OwnD Int × Int × Bool × Int × Int) × Nat × (Nat × Nat × Nat) × Nat × (Nat → Int × Int × Nat × Nat × Nat × (Nat → Int))), ((0 : Nat) = (0 : Nat) ∧ Prod.fst (Prod.snd
    (Prod.snd (Prod.snd x4))) = Prod.fst (Prod.snd (Prod.snd (Prod.snd x5))) ∧ (0 : Nat) = (0 : Nat)) ∧ ((Prod.fst (Prod.snd (Prod.snd (Prod.snd x4))) = Prod.fst (Prod.snd (Prod.snd (Prod.snd x5))) ∧ (0 : Nat) = (0 : Nat) ∧ Bool.false = Bool.false ∧ (1 : Nat) ≤ (1 : Nat) ∧ (1 : Nat) ≤ (1 : Nat) ∧ (1 : Nat) ≤ (1 : Nat)) ∧ Prod.fst (Prod.fst (Prod.snd (Prod.snd x4))) = Prod.fst (Prod.fst (Prod.snd
    (Prod.snd x5))) ∧ Prod.fst (Prod.snd (Prod.fst (Prod.snd (Prod.snd x4)))) = Prod.fst (Prod.snd (Prod.fst (Prod.snd (Prod.snd x5)))) ∧ (0 : Nat) = (0 : Nat) ∧ Prod.fst (Prod.snd x4) = Prod.fst (Prod.snd x5) ∧ Prod.snd (Prod.snd (Prod.fst (Prod.snd (Prod.snd x4)))) = Prod.snd (Prod.snd (Prod.fst (Prod.snd (Prod.snd x5)))) ∧ Nat.beq (Prod.fst (Prod.snd x4)) (0 : Nat) = Nat.beq (Prod.fst (Prod.snd x5))
    (0 : Nat)) ∧ ((Prod.fst (Prod.fst (Prod.snd (Prod.snd x4))) = Prod.fst (Prod.fst (Prod.snd (Prod.snd x5))) ∧ Prod.fst (Prod.snd (Prod.fst (Prod.snd (Prod.snd x4)))) = Prod.fst (Prod.snd (Prod.fst (Prod.snd (Prod.snd x5)))) ∧ Nat.beq (Prod.fst (Prod.snd x4)) (0 : Nat) = Nat.beq (Prod.fst (Prod.snd x5)) (0 : Nat) ∧ Prod.fst (Prod.snd x5) ≤ Prod.fst (Prod.snd x4) ∧ Prod.fst (Prod.snd x5) ≤ Prod.snd
    (Prod.snd (Prod.fst (Prod.snd (Prod.snd x5)))) ∧ Prod.snd (Prod.snd (Prod.fst (Prod.snd (Prod.snd x5)))) ≤ Prod.snd (Prod.snd (Prod.fst (Prod.snd (Prod.snd x4))))) ∧ ∀ (i7 : Nat), i7 < Prod.fst (Prod.snd x5) → Prod.fst (Prod.snd (Prod.snd (Prod.snd (Prod.snd x4))) i7) = Prod.fst (Prod.snd (Prod.snd (Prod.snd (Prod.snd x5))) i7) ∧ Prod.fst (Prod.snd (Prod.snd (Prod.snd (Prod.snd (Prod.snd x4))) i7))
    = Prod.fst (Prod.snd (Prod.snd (Prod.snd (Prod.snd (Prod.snd x5))) i7)) ∧ Prod.fst (Prod.snd (Prod.snd (Prod.snd (Prod.snd (Prod.snd (Prod.snd x4))) i7))) = Prod.fst (Prod.snd (Prod.snd (Prod.snd (Prod.snd (Prod.snd (Prod.snd x5))) i7))) ∧ Prod.fst (Prod.snd (Prod.snd (Prod.snd (Prod.snd (Prod.snd (Prod.snd (Prod.snd x4))) i7)))) = Prod.fst (Prod.snd (Prod.snd (Prod.snd (Prod.snd (Prod.snd
    (Prod.snd (Prod.snd x5))) i7)))) ∧ (0 : Nat) = (0 : Nat) ∧ Int.toNat len = Int.toNat len ∧ Prod.fst (Prod.snd (Prod.snd (Prod.snd (Prod.snd (Prod.snd (Prod.snd (Prod.snd (Prod.snd x4))) i7))))) = Prod.fst (Prod.snd (Prod.snd (Prod.snd (Prod.snd (Prod.snd (Prod.snd (Prod.snd (Prod.snd x5))) i7))))) ∧ Bool.false = Bool.false) ∧ (∀ (i8 : Nat), i8 < Prod.fst (Prod.snd x5) → ∃ (x6 : Nat), x6 < Prod.fst
    (Prod.snd x4) ∧ (Prod.fst (Prod.snd (Prod.snd (Prod.snd (Prod.snd (Prod.snd (Prod.snd x4))) x6))), Prod.fst (Prod.snd (Prod.snd (Prod.snd (Prod.snd (Prod.snd (Prod.snd (Prod.snd x4))) x6))))) = (Prod.fst (Prod.snd (Prod.snd (Prod.snd (Prod.snd (Prod.snd (Prod.snd x5))) i8))), Prod.fst (Prod.snd (Prod.snd (Prod.snd (Prod.snd (Prod.snd (Prod.snd (Prod.snd x5))) i8))))) ∧ Int.toNat len = Int.toNat len
    ∧ ∀ (k3 : Nat), k3 < Int.toNat len → Prod.snd (Prod.snd (Prod.snd (Prod.snd (Prod.snd (Prod.snd (Prod.snd (Prod.snd (Prod.snd x4))) x6))))) k3 = Prod.snd (Prod.snd (Prod.snd (Prod.snd (Prod.snd (Prod.snd (Prod.snd (Prod.snd (Prod.snd x5))) i8))))) k3) ∧ ((Prod.fst (Prod.fst y1) = fb ∧ Prod.fst (Prod.snd (Prod.fst y1)) = fo ∧ Bool.false = Bool.false ∧ (1 : Nat) ≤ (1 : Nat) ∧ (1 : Nat) ≤ (1 : Nat) ∧
    (1 : Nat) ≤ (1 : Nat)) ∧ ((0 : Nat) = (0 : Nat) ∧ Prod.fst (Prod.fst (Prod.snd (Prod.snd (Prod.fst y1)))) = sb ∧ Prod.fst (Prod.snd (Prod.fst (Prod.snd (Prod.snd (Prod.fst y1))))) = so) ∧ Prod.fst (Prod.snd (Prod.snd (Prod.snd (Prod.fst y1)))) = len ∧ (Eng.OwnD.b (Prod.fst (Prod.snd (Prod.snd (Prod.snd (Prod.snd (Prod.fst y1)))))) = Eng.OwnD.b (Prod.fst (Prod.snd (Prod.snd (Prod.fst x5)))) ∧
    Eng.OwnD.off (Prod.fst (Prod.snd (Prod.snd (Prod.snd (Prod.snd (Prod.fst y1)))))) = Eng.OwnD.off (Prod.fst (Prod.snd (Prod.snd (Prod.fst x5)))) ∧ (0 : Nat) = (0 : Nat) ∧ Eng.OwnD.n (Prod.fst (Prod.snd (Prod.snd (Prod.snd (Prod.snd (Prod.fst y1)))))) = Eng.OwnD.n (Prod.fst (Prod.snd (Prod.snd (Prod.fst x5)))) ∧ Eng.OwnD.c (Prod.fst (Prod.snd (Prod.snd (Prod.snd (Prod.snd (Prod.fst y1)))))) =
    Eng.OwnD.c (Prod.fst (Prod.snd (Prod.snd (Prod.fst x5)))) ∧ Eng.OwnD.z (Prod.fst (Prod.snd (Prod.snd (Prod.snd (Prod.snd (Prod.fst y1)))))) = Eng.OwnD.z (Prod.fst (Prod.snd (Prod.snd (Prod.fst x5))))) ∧ Prod.fst (Prod.snd (Prod.snd (Prod.snd (Prod.snd (Prod.snd (Prod.fst y1)))))) = Prod.fst (Prod.snd (Prod.snd (Prod.snd (Prod.fst x5)))) ∧ Prod.fst (Prod.snd (Prod.snd (Prod.snd (Prod.snd (Prod.snd
    (Prod.snd (Prod.fst y1))))))) = Prod.fst (Prod.snd (Prod.snd (Prod.snd (Prod.snd (Prod.fst x5))))) ∧ Prod.fst (Prod.snd (Prod.snd (Prod.snd (Prod.snd (Prod.snd (Prod.snd (Prod.snd (Prod.fst y1)))))))) = Prod.fst (Prod.snd (Prod.snd (Prod.snd (Prod.snd (Prod.snd (Prod.fst x5)))))) ∧ Prod.fst (Prod.snd (Prod.snd (Prod.snd (Prod.snd (Prod.snd (Prod.snd (Prod.snd (Prod.snd (Prod.fst y1))))))))) =
    Prod.snd (Prod.snd (Prod.snd (Prod.snd (Prod.snd (Prod.snd (Prod.fst x5)))))) ∧ Eng.SVeq (Eng.SV.fn (Go.Fn.func (38 : Go.FuncId)) [] [Eng.SV.ptr (900001 : Nat) (Prod.fst (Prod.fst (Prod.snd (Prod.snd (Prod.snd (Prod.snd (Prod.snd (Prod.snd (Prod.snd (Prod.snd (Prod.snd (Prod.fst y1)))))))))))) (Prod.snd (Prod.fst (Prod.snd (Prod.snd (Prod.snd (Prod.snd (Prod.snd (Prod.snd (Prod.snd (Prod.snd
    (Prod.snd (Prod.fst y1)))))))))))) [Eng.PS.elt (0 : Nat) (1 : Nat)]]) (Eng.SV.fn (Go.Fn.func (38 : Go.FuncId)) [] [Eng.SV.ptr (900001 : Nat) (Prod.fst (Prod.snd (Prod.snd (Prod.snd x5)))) (0 : Nat) [Eng.PS.elt (0 : Nat) (1 : Nat)]])) ∧ ((Prod.fst (Prod.fst (Prod.snd (Prod.snd (Prod.fst y1)))) = sb ∧ Prod.fst (Prod.snd (Prod.fst (Prod.snd (Prod.snd (Prod.fst y1))))) = so ∧ Bool.false = Bool.false ∧
    (1 : Nat) ≤ (1 : Nat) ∧ (1 : Nat) ≤ (1 : Nat) ∧ (1 : Nat) ≤ (1 : Nat)) ∧ Prod.fst (Prod.snd (Prod.snd (Prod.fst (Prod.snd (Prod.snd (Prod.fst y1)))))) = Prod.fst (Prod.fst x5) ∧ Prod.fst (Prod.snd (Prod.snd (Prod.snd (Prod.fst (Prod.snd (Prod.snd (Prod.fst y1))))))) = Prod.fst (Prod.snd (Prod.fst x5))) ∧ ((Eng.OwnD.b (Prod.fst (Prod.snd (Prod.snd (Prod.snd (Prod.snd (Prod.fst y1)))))) = Eng.OwnD.b
    (Prod.fst (Prod.snd (Prod.snd (Prod.fst x5)))) ∧ Eng.OwnD.off (Prod.fst (Prod.snd (Prod.snd (Prod.snd (Prod.snd (Prod.fst y1)))))) = Eng.OwnD.off (Prod.fst (Prod.snd (Prod.snd (Prod.fst x5)))) ∧ Eng.OwnD.ez (Prod.fst (Prod.snd (Prod.snd (Prod.snd (Prod.snd (Prod.fst y1)))))) = Eng.OwnD.ez (Prod.fst (Prod.snd (Prod.snd (Prod.fst x5)))) ∧ Eng.OwnD.m (Prod.fst (Prod.snd (Prod.snd (Prod.fst x5)))) ≤
    Eng.OwnD.m (Prod.fst (Prod.snd (Prod.snd (Prod.snd (Prod.snd (Prod.fst y1)))))) ∧ Eng.OwnD.m (Prod.fst (Prod.snd (Prod.snd (Prod.fst x5)))) ≤ Eng.OwnD.cap (Prod.fst (Prod.snd (Prod.snd (Prod.fst x5)))) ∧ Eng.OwnD.cap (Prod.fst (Prod.snd (Prod.snd (Prod.fst x5)))) ≤ Eng.OwnD.cap (Prod.fst (Prod.snd (Prod.snd (Prod.snd (Prod.snd (Prod.fst y1))))))) ∧ ∀ (i9 : Nat), i9 < Eng.OwnD.m (Prod.fst (Prod.snd
    (Prod.snd (Prod.fst x5)))) → Eng.OwnD.f (Prod.fst (Prod.snd (Prod.snd (Prod.snd (Prod.snd (Prod.fst y1)))))) i9 = Eng.OwnD.f (Prod.fst (Prod.snd (Prod.snd (Prod.fst x5)))) i9) ∧ Mk.feedL (Mk.FV.fd (fb, fo, (sb, so, tk, lk, ()), len, Eng.OwnD.mk b off n c z m cap ez f, pl, op, wg, ms, gv, ())) (Eng.RowD.mk rb ro rn rc rz rf) x5 ∧ ((2 : Nat) * Eng.OwnD.n (Prod.fst (Prod.snd (Prod.snd (Prod.fst x5))))
    + if Prod.fst (Prod.snd (Prod.fst x5)) = Bool.true then (1 : Nat) else (0 : Nat)) < (2 : Nat) * Eng.OwnD.n (Prod.fst (Prod.snd (Prod.snd (Prod.fst x4)))) + if Prod.fst (Prod.snd (Prod.fst x4)) = Bool.true then (1 : Nat) else (0 : Nat)
def feed_Q5 (x4 : (Int × Bool × Eng.OwnD Int × Int × Bool × Int × Int) × Nat × (Nat × Nat × Nat) × Nat × (Nat → Int × Int × Nat × Nat × Nat × (Nat → Int))) (rb : Nat) (ro : Nat) (rn : Nat) (rc : Nat) (rz : Bool) (rf : Nat → Int) (y1 : (Nat × Nat × (Nat × Nat × Int × Bool × Unit) × Int × Eng.OwnD Int × Int × Bool × Int × Int × (Nat × Nat) × Unit) × Bool) (fb : Nat) (fo : Nat) (sb : Nat) (so : Nat)
    (len : Int) (tk : Int) (lk : Bool) (b : Nat) (off : Nat) (n : Nat) (c : Nat) (z : Bool) (m : Nat) (cap : Nat) (ez : Bool) (f : Nat → Int) (pl : Int) (op : Bool) (wg : Int) (ms : Int) (gv : Go.Value) : Prop := ∃ (x6 : ((Int × Bool × Eng.OwnD Int × Int × Bool × Int × Int) × Nat × (Nat × Nat × Nat) × Nat × (Nat → Int × Int × Nat × Nat × Nat × (Nat → Int))) × Go.Value), ((Prod.fst (Prod.fst (Prod.snd
    (Prod.snd x4))) = Prod.fst (Prod.fst (Prod.snd (Prod.snd (Prod.fst x6)))) ∧ Prod.fst (Prod.snd (Prod.fst (Prod.snd (Prod.snd x4)))) = Prod.fst (Prod.snd (Prod.fst (Prod.snd (Prod.snd (Prod.fst x6))))) ∧ (0 : Nat) = (0 : Nat) ∧ Prod.fst (Prod.snd x4) = Prod.fst (Prod.snd (Prod.fst x6)) ∧ Prod.snd (Prod.snd (Prod.fst (Prod.snd (Prod.snd x4)))) = Prod.snd (Prod.snd (Prod.fst (Prod.snd (Prod.snd
    (Prod.fst x6))))) ∧ Nat.beq (Prod.fst (Prod.snd x4)) (0 : Nat) = Nat.beq (Prod.fst (Prod.snd (Prod.fst x6))) (0 : Nat)) ∧ (0 : Int) = Mk.feedE (Eng.RowD.mk rb ro rn rc rz rf)) ∧ ((Prod.fst (Prod.fst y1) = fb ∧ Prod.fst (Prod.snd (Prod.fst y1)) = fo ∧ Bool.false = Bool.false ∧ (1 : Nat) ≤ (1 : Nat) ∧ (1 : Nat) ≤ (1 : Nat) ∧ (1 : Nat) ≤ (1 : Nat)) ∧ ((0 : Nat) = (0 : Nat) ∧ Prod.fst (Prod.fst
    (Prod.snd (Prod.snd (Prod.fst y1)))) = sb ∧ Prod.fst (Prod.snd (Prod.fst (Prod.snd (Prod.snd (Prod.fst y1))))) = so) ∧ Prod.fst (Prod.snd (Prod.snd (Prod.snd (Prod.fst y1)))) = len ∧ (Eng.OwnD.b (Prod.fst (Prod.snd (Prod.snd (Prod.snd (Prod.snd (Prod.fst y1)))))) = Eng.OwnD.b (Prod.fst (Prod.snd (Prod.snd (Prod.fst (Prod.fst x6))))) ∧ Eng.OwnD.off (Prod.fst (Prod.snd (Prod.snd (Prod.snd (Prod.snd
    (Prod.fst y1)))))) = Eng.OwnD.off (Prod.fst (Prod.snd (Prod.snd (Prod.fst (Prod.fst x6))))) ∧ (0 : Nat) = (0 : Nat) ∧ Eng.OwnD.n (Prod.fst (Prod.snd (Prod.snd (Prod.snd (Prod.snd (Prod.fst y1)))))) = Eng.OwnD.n (Prod.fst (Prod.snd (Prod.snd (Prod.fst (Prod.fst x6))))) ∧ Eng.OwnD.c (Prod.fst (Prod.snd (Prod.snd (Prod.snd (Prod.snd (Prod.fst y1)))))) = Eng.OwnD.c (Prod.fst (Prod.snd (Prod.snd
    (Prod.fst (Prod.fst x6))))) ∧ Eng.OwnD.z (Prod.fst (Prod.snd (Prod.snd (Prod.snd (Prod.snd (Prod.fst y1)))))) = Eng.OwnD.z (Prod.fst (Prod.snd (Prod.snd (Prod.fst (Prod.fst x6)))))) ∧ Prod.fst (Prod.snd (Prod.snd (Prod.snd (Prod.snd (Prod.snd (Prod.fst y1)))))) = Prod.fst (Prod.snd (Prod.snd (Prod.snd (Prod.fst (Prod.fst x6))))) ∧ Prod.fst (Prod.snd (Prod.snd (Prod.snd (Prod.snd (Prod.snd (Prod.snd
    (Prod.fst y1))))))) = Prod.fst (Prod.snd (Prod.snd (Prod.snd (Prod.snd (Prod.fst (Prod.fst x6)))))) ∧ Prod.fst (Prod.snd (Prod.snd (Prod.snd (Prod.snd (Prod.snd (Prod.snd (Prod.snd (Prod.fst y1)))))))) = Prod.fst (Prod.snd (Prod.snd (Prod.snd (Prod.snd (Prod.snd (Prod.fst (Prod.fst x6))))))) ∧ Prod.fst (Prod.snd (Prod.snd (Prod.snd (Prod.snd (Prod.snd (Prod.snd (Prod.snd (Prod.snd (Prod.fst
    y1))))))))) = Prod.snd (Prod.snd (Prod.snd (Prod.snd (Prod.snd (Prod.snd (Prod.fst (Prod.fst x6))))))) ∧ Eng.SVeq (Eng.SV.fn (Go.Fn.func (38 : Go.FuncId)) [] [Eng.SV.ptr (900001 : Nat) (Prod.fst (Prod.fst (Prod.snd (Prod.snd (Prod.snd (Prod.snd (Prod.snd (Prod.snd (Prod.snd (Prod.snd (Prod.snd (Prod.fst y1)))))))))))) (Prod.snd (Prod.fst (Prod.snd (Prod.snd (Prod.snd (Prod.snd (Prod.snd (Prod.snd
    (Prod.snd (Prod.snd (Prod.snd (Prod.fst y1)))))))))))) [Eng.PS.elt (0 : Nat) (1 : Nat)]]) (Eng.SV.val (Prod.snd x6))) ∧ ((Prod.fst (Prod.fst (Prod.snd (Prod.snd (Prod.fst y1)))) = sb ∧ Prod.fst (Prod.snd (Prod.fst (Prod.snd (Prod.snd (Prod.fst y1))))) = so ∧ Bool.false = Bool.false ∧ (1 : Nat) ≤ (1 : Nat) ∧ (1 : Nat) ≤ (1 : Nat) ∧ (1 : Nat) ≤ (1 : Nat)) ∧ Prod.fst (Prod.snd (Prod.snd (Prod.fst
    (Prod.snd (Prod.snd (Prod.fst y1)))))) = Prod.fst (Prod.fst (Prod.fst x6)) ∧ Prod.fst (Prod.snd (Prod.snd (Prod.snd (Prod.fst (Prod.snd (Prod.snd (Prod.fst y1))))))) = Prod.fst (Prod.snd (Prod.fst (Prod.fst x6)))) ∧ ((Eng.OwnD.b (Prod.fst (Prod.snd (Prod.snd (Prod.snd (Prod.snd (Prod.fst y1)))))) = Eng.OwnD.b (Prod.fst (Prod.snd (Prod.snd (Prod.fst (Prod.fst x6))))) ∧ Eng.OwnD.off (Prod.fst
    (Prod.snd (Prod.snd (Prod.snd (Prod.snd (Prod.fst y1)))))) = Eng.OwnD.off (Prod.fst (Prod.snd (Prod.snd (Prod.fst (Prod.fst x6))))) ∧ Eng.OwnD.ez (Prod.fst (Prod.snd (Prod.snd (Prod.snd (Prod.snd (Prod.fst y1)))))) = Eng.OwnD.ez (Prod.fst (Prod.snd (Prod.snd (Prod.fst (Prod.fst x6))))) ∧ Eng.OwnD.m (Prod.fst (Prod.snd (Prod.snd (Prod.fst (Prod.fst x6))))) ≤ Eng.OwnD.m (Prod.fst (Prod.snd (Prod.snd
    (Prod.snd (Prod.snd (Prod.fst y1)))))) ∧ Eng.OwnD.m (Prod.fst (Prod.snd (Prod.snd (Prod.fst (Prod.fst x6))))) ≤ Eng.OwnD.cap (Prod.fst (Prod.snd (Prod.snd (Prod.fst (Prod.fst x6))))) ∧ Eng.OwnD.cap (Prod.fst (Prod.snd (Prod.snd (Prod.fst (Prod.fst x6))))) ≤ Eng.OwnD.cap (Prod.fst (Prod.snd (Prod.snd (Prod.snd (Prod.snd (Prod.fst y1))))))) ∧ ∀ (i10 : Nat), i10 < Eng.OwnD.m (Prod.fst (Prod.snd
    (Prod.snd (Prod.fst (Prod.fst x6))))) → Eng.OwnD.f (Prod.fst (Prod.snd (Prod.snd (Prod.snd (Prod.snd (Prod.fst y1)))))) i10 = Eng.OwnD.f (Prod.fst (Prod.snd (Prod.snd (Prod.fst (Prod.fst x6))))) i10) ∧ ((Prod.fst (Prod.fst (Prod.snd (Prod.snd x4))) = Prod.fst (Prod.fst (Prod.snd (Prod.snd (Prod.fst x6)))) ∧ Prod.fst (Prod.snd (Prod.fst (Prod.snd (Prod.snd x4)))) = Prod.fst (Prod.snd (Prod.fst
    (Prod.snd (Prod.snd (Prod.fst x6))))) ∧ Nat.beq (Prod.fst (Prod.snd x4)) (0 : Nat) = Nat.beq (Prod.fst (Prod.snd (Prod.fst x6))) (0 : Nat) ∧ Prod.fst (Prod.snd (Prod.fst x6)) ≤ Prod.fst (Prod.snd x4) ∧ Prod.fst (Prod.snd (Prod.fst x6)) ≤ Prod.snd (Prod.snd (Prod.fst (Prod.snd (Prod.snd (Prod.fst x6))))) ∧ Prod.snd (Prod.snd (Prod.fst (Prod.snd (Prod.snd (Prod.fst x6))))) ≤ Prod.snd (Prod.snd
    (Prod.fst (Prod.snd (Prod.snd x4))))) ∧ ∀ (i11 : Nat), i11 < Prod.fst (Prod.snd (Prod.fst x6)) → Prod.fst (Prod.snd (Prod.snd (Prod.snd (Prod.snd x4))) i11) = Prod.fst (Prod.snd (Prod.snd (Prod.snd (Prod.snd (Prod.fst x6)))) i11) ∧ Prod.fst (Prod.snd (Prod.snd (Prod.snd (Prod.snd (Prod.snd x4))) i11)) = Prod.fst (Prod.snd (Prod.snd (Prod.snd (Prod.snd (Prod.snd (Prod.fst x6)))) i11)) ∧ Prod.fst
    (Prod.snd (Prod.snd (Prod.snd (Prod.snd (Prod.snd (Prod.snd x4))) i11))) = Prod.fst (Prod.snd (Prod.snd (Prod.snd (Prod.snd (Prod.snd (Prod.snd (Prod.fst x6)))) i11))) ∧ Prod.fst (Prod.snd (Prod.snd (Prod.snd (Prod.snd (Prod.snd (Prod.snd (Prod.snd x4))) i11)))) = Prod.fst (Prod.snd (Prod.snd (Prod.snd (Prod.snd (Prod.snd (Prod.snd (Prod.snd (Prod.fst x6)))) i11)))) ∧ (0 : Nat) = (0 : Nat) ∧
    Int.toNat len = Int.toNat len ∧ Prod.fst (Prod.snd (Prod.snd (Prod.snd (Prod.snd (Prod.snd (Prod.snd (Prod.snd (Prod.snd x4))) i11))))) = Prod.fst (Prod.snd (Prod.snd (Prod.snd (Prod.snd (Prod.snd (Prod.snd (Prod.snd (Prod.snd (Prod.fst x6)))) i11))))) ∧ Bool.false = Bool.false) ∧ (∀ (i12 : Nat), i12 < Prod.fst (Prod.snd (Prod.fst x6)) → ∃ (x7 : Nat), x7 < Prod.fst (Prod.snd x4) ∧ (Prod.fst
    (Prod.snd (Prod.snd (Prod.snd (Prod.snd (Prod.snd (Prod.snd x4))) x7))), Prod.fst (Prod.snd (Prod.snd (Prod.snd (Prod.snd (Prod.snd (Prod.snd (Prod.snd x4))) x7))))) = (Prod.fst (Prod.snd (Prod.snd (Prod.snd (Prod.snd (Prod.snd (Prod.snd (Prod.fst x6)))) i12))), Prod.fst (Prod.snd (Prod.snd (Prod.snd (Prod.snd (Prod.snd (Prod.snd (Prod.snd (Prod.fst x6)))) i12))))) ∧ Int.toNat len = Int.toNat len ∧
    ∀ (k3 : Nat), k3 < Int.toNat len → Prod.snd (Prod.snd (Prod.snd (Prod.snd (Prod.snd (Prod.snd (Prod.snd (Prod.snd (Prod.snd x4))) x7))))) k3 = Prod.snd (Prod.snd (Prod.snd (Prod.snd (Prod.snd (Prod.snd (Prod.snd (Prod.snd (Prod.snd (Prod.fst x6)))) i12))))) k3) ∧ Mk.feedP (Mk.FV.fd (fb, fo, (sb, so, tk, lk, ()), len, Eng.OwnD.mk b off n c z m cap ez f, pl, op, wg, ms, gv, ())) (Eng.RowD.mk rb ro rn
    rc rz rf) (Prod.fst x6, (0 : Nat), (0 : Nat))
def feed_Q6 (x4 : (Int × Bool × Eng.OwnD Int × Int × Bool × Int × Int) × Nat × (Nat × Nat × Nat) × Nat × (Nat → Int × Int × Nat × Nat × Nat × (Nat → Int))) (b8 : Nat) (b9 : Nat) (b10 : Nat) (y1 : (Nat × Nat × (Nat × Nat × Int × Bool × Unit) × Int × Eng.OwnD Int × Int × Bool × Int × Int × (Nat × Nat) × Unit) × Bool) (len : Int) (y2 : Nat × Nat × Nat) (x'2 : Eng.RowD Int × Unit) (x'3 : (Nat × Nat ×
    (Nat × Nat × Int × Bool × Unit) × Int × Eng.OwnD Int × Int × Bool × Int × Int × (Nat × Nat) × Unit) × Int × Unit) (fb : Nat) (fo : Nat) (sb : Nat) (so : Nat) (tk : Int) (lk : Bool) (b : Nat) (off : Nat) (n : Nat) (c : Nat) (z : Bool) (m : Nat) (cap : Nat) (ez : Bool) (f : Nat → Int) (pl : Int) (op : Bool) (wg : Int) (ms : Int) (gv : Go.Value) (rb : Nat) (ro : Nat) (rn : Nat) (rc : Nat) (rz : Bool)
    (rf : Nat → Int) : Prop := ∃ (x7 : (Int × Bool × Eng.OwnD Int × Int × Bool × Int × Int) × Nat × (Nat × Nat × Nat) × Nat × (Nat → Int × Int × Nat × Nat × Nat × (Nat → Int))), ((0 : Nat) = (0 : Nat) ∧ Prod.fst (Prod.snd (Prod.snd (Prod.snd x4))) = Prod.fst (Prod.snd (Prod.snd (Prod.snd x7))) ∧ (0 : Nat) = (0 : Nat)) ∧ ((Prod.fst (Prod.snd (Prod.snd (Prod.snd x4))) = Prod.fst (Prod.snd (Prod.snd
    (Prod.snd x7))) ∧ (0 : Nat) = (0 : Nat) ∧ Bool.false = Bool.false ∧ (1 : Nat) ≤ (1 : Nat) ∧ (1 : Nat) ≤ (1 : Nat) ∧ (1 : Nat) ≤ (1 : Nat)) ∧ b8 = Prod.fst (Prod.fst (Prod.snd (Prod.snd x7))) ∧ b9 = Prod.fst (Prod.snd (Prod.fst (Prod.snd (Prod.snd x7)))) ∧ (0 : Nat) = (0 : Nat) ∧ Prod.fst (Prod.snd x4) + (1 : Nat) = Prod.fst (Prod.snd x7) ∧ b10 = Prod.snd (Prod.snd (Prod.fst (Prod.snd (Prod.snd
    x7)))) ∧ (Nat.beq (Prod.fst (Prod.snd x4)) (0 : Nat) && Decidable.decide ((1 : Nat) = (0 : Nat))) = Nat.beq (Prod.fst (Prod.snd x7)) (0 : Nat)) ∧ ((b8 = Prod.fst (Prod.fst (Prod.snd (Prod.snd x7))) ∧ b9 = Prod.fst (Prod.snd (Prod.fst (Prod.snd (Prod.snd x7)))) ∧ (Nat.beq (Prod.fst (Prod.snd x4)) (0 : Nat) && Decidable.decide ((1 : Nat) = (0 : Nat))) = Nat.beq (Prod.fst (Prod.snd x7)) (0 : Nat) ∧
    Prod.fst (Prod.snd x7) ≤ Prod.fst (Prod.snd x4) + (1 : Nat) ∧ Prod.fst (Prod.snd x7) ≤ Prod.snd (Prod.snd (Prod.fst (Prod.snd (Prod.snd x7)))) ∧ Prod.snd (Prod.snd (Prod.fst (Prod.snd (Prod.snd x7)))) ≤ b10) ∧ ∀ (i13 : Nat), i13 < Prod.fst (Prod.snd x7) → (if i13 < Prod.fst (Prod.snd x4) then Prod.fst (Prod.snd (Prod.snd (Prod.snd (Prod.snd x4))) i13) else Prod.fst (Prod.snd (Prod.snd (Prod.snd
    (Prod.snd (Prod.snd (Prod.fst y1))))))) = Prod.fst (Prod.snd (Prod.snd (Prod.snd (Prod.snd x7))) i13) ∧ (if i13 < Prod.fst (Prod.snd x4) then Prod.fst (Prod.snd (Prod.snd (Prod.snd (Prod.snd (Prod.snd x4))) i13)) else Prod.fst (Prod.snd (Prod.snd (Prod.snd (Prod.snd (Prod.snd (Prod.snd (Prod.snd (Prod.fst y1))))))))) = Prod.fst (Prod.snd (Prod.snd (Prod.snd (Prod.snd (Prod.snd x7))) i13)) ∧
    Eng.eqv3 (if i13 < Prod.fst (Prod.snd x4) then Eng.SV.slice (801 : Nat) (Prod.fst (Prod.snd (Prod.snd (Prod.snd (Prod.snd (Prod.snd (Prod.snd x4))) i13)))) (Prod.fst (Prod.snd (Prod.snd (Prod.snd (Prod.snd (Prod.snd (Prod.snd (Prod.snd x4))) i13))))) [Eng.PS.elt i13 (0 : Nat)] (1 : Nat) (0 : Nat) (Int.toNat len) (Prod.fst (Prod.snd (Prod.snd (Prod.snd (Prod.snd (Prod.snd (Prod.snd (Prod.snd
    (Prod.snd x4))) i13)))))) Bool.false else Eng.SV.slice (100 : Nat) (Prod.fst y2) (Prod.fst (Prod.snd y2)) [] (1 : Nat) (0 : Nat) (Eng.RowD.n (Prod.fst x'2)) (Prod.snd (Prod.snd y2)) Bool.false) (Eng.SV.slice (801 : Nat) (Prod.fst (Prod.snd (Prod.snd (Prod.snd (Prod.snd (Prod.snd (Prod.snd x7))) i13)))) (Prod.fst (Prod.snd (Prod.snd (Prod.snd (Prod.snd (Prod.snd (Prod.snd (Prod.snd x7))) i13)))))
    [Eng.PS.elt i13 (0 : Nat)] (1 : Nat) (0 : Nat) (Int.toNat len) (Prod.fst (Prod.snd (Prod.snd (Prod.snd (Prod.snd (Prod.snd (Prod.snd (Prod.snd (Prod.snd x7))) i13)))))) Bool.false)) ∧ (∀ (i14 : Nat), i14 < Prod.fst (Prod.snd x7) → (∃ (x8 : Nat), x8 < Prod.fst (Prod.snd x4) ∧ (Prod.fst (Prod.snd (Prod.snd (Prod.snd (Prod.snd (Prod.snd (Prod.snd x4))) x8))), Prod.fst (Prod.snd (Prod.snd (Prod.snd
    (Prod.snd (Prod.snd (Prod.snd (Prod.snd x4))) x8))))) = (Prod.fst (Prod.snd (Prod.snd (Prod.snd (Prod.snd (Prod.snd (Prod.snd x7))) i14))), Prod.fst (Prod.snd (Prod.snd (Prod.snd (Prod.snd (Prod.snd (Prod.snd (Prod.snd x7))) i14))))) ∧ Int.toNat len = Int.toNat len ∧ ∀ (k5 : Nat), k5 < Int.toNat len → Prod.snd (Prod.snd (Prod.snd (Prod.snd (Prod.snd (Prod.snd (Prod.snd (Prod.snd (Prod.snd x4)))
    x8))))) k5 = Prod.snd (Prod.snd (Prod.snd (Prod.snd (Prod.snd (Prod.snd (Prod.snd (Prod.snd (Prod.snd x7))) i14))))) k5) ∨ Bool.false = Bool.false ∧ (Prod.fst y2, Prod.fst (Prod.snd y2)) = (Prod.fst (Prod.snd (Prod.snd (Prod.snd (Prod.snd (Prod.snd (Prod.snd x7))) i14))), Prod.fst (Prod.snd (Prod.snd (Prod.snd (Prod.snd (Prod.snd (Prod.snd (Prod.snd x7))) i14))))) ∧ Eng.RowD.n (Prod.fst x'2) =
    Int.toNat len ∧ ∀ (k6 : Nat), k6 < Eng.RowD.n (Prod.fst x'2) → Eng.RowD.f (Prod.fst x'2) k6 = Prod.snd (Prod.snd (Prod.snd (Prod.snd (Prod.snd (Prod.snd (Prod.snd (Prod.snd (Prod.snd x7))) i14))))) k6) ∧ ((Prod.fst (Prod.fst x'3) = fb ∧ Prod.fst (Prod.snd (Prod.fst x'3)) = fo ∧ Bool.false = Bool.false ∧ (1 : Nat) ≤ (1 : Nat) ∧ (1 : Nat) ≤ (1 : Nat) ∧ (1 : Nat) ≤ (1 : Nat)) ∧ ((0 : Nat) = (0 : Nat)
    ∧ Prod.fst (Prod.fst (Prod.snd (Prod.snd (Prod.fst x'3)))) = sb ∧ Prod.fst (Prod.snd (Prod.fst (Prod.snd (Prod.snd (Prod.fst x'3))))) = so) ∧ Prod.fst (Prod.snd (Prod.snd (Prod.snd (Prod.fst x'3)))) = len ∧ (Eng.OwnD.b (Prod.fst (Prod.snd (Prod.snd (Prod.snd (Prod.snd (Prod.fst x'3)))))) = Eng.OwnD.b (Prod.fst (Prod.snd (Prod.snd (Prod.fst x7)))) ∧ Eng.OwnD.off (Prod.fst (Prod.snd (Prod.snd
    (Prod.snd (Prod.snd (Prod.fst x'3)))))) = Eng.OwnD.off (Prod.fst (Prod.snd (Prod.snd (Prod.fst x7)))) ∧ (0 : Nat) = (0 : Nat) ∧ Eng.OwnD.n (Prod.fst (Prod.snd (Prod.snd (Prod.snd (Prod.snd (Prod.fst x'3)))))) - Int.toNat (Prod.fst (Prod.snd x'3)) = Eng.OwnD.n (Prod.fst (Prod.snd (Prod.snd (Prod.fst x7)))) ∧ Eng.OwnD.c (Prod.fst (Prod.snd (Prod.snd (Prod.snd (Prod.snd (Prod.fst x'3)))))) =
    Eng.OwnD.c (Prod.fst (Prod.snd (Prod.snd (Prod.fst x7)))) ∧ Eng.OwnD.z (Prod.fst (Prod.snd (Prod.snd (Prod.snd (Prod.snd (Prod.fst x'3)))))) = Eng.OwnD.z (Prod.fst (Prod.snd (Prod.snd (Prod.fst x7))))) ∧ Prod.fst (Prod.snd (Prod.snd (Prod.snd (Prod.snd (Prod.snd (Prod.fst x'3)))))) + (↑(Int.toNat (Prod.fst (Prod.snd x'3))) : Int) = Prod.fst (Prod.snd (Prod.snd (Prod.snd (Prod.fst x7)))) ∧ Prod.fst
    (Prod.snd (Prod.snd (Prod.snd (Prod.snd (Prod.snd (Prod.snd (Prod.fst x'3))))))) = Prod.fst (Prod.snd (Prod.snd (Prod.snd (Prod.snd (Prod.fst x7))))) ∧ Prod.fst (Prod.snd (Prod.snd (Prod.snd (Prod.snd (Prod.snd (Prod.snd (Prod.snd (Prod.fst x'3)))))))) = Prod.fst (Prod.snd (Prod.snd (Prod.snd (Prod.snd (Prod.snd (Prod.fst x7)))))) ∧ Prod.fst (Prod.snd (Prod.snd (Prod.snd (Prod.snd (Prod.snd
    (Prod.snd (Prod.snd (Prod.snd (Prod.fst x'3))))))))) = Prod.snd (Prod.snd (Prod.snd (Prod.snd (Prod.snd (Prod.snd (Prod.fst x7)))))) ∧ Eng.SVeq (Eng.SV.fn (Go.Fn.func (38 : Go.FuncId)) [] [Eng.SV.ptr (900001 : Nat) (Prod.fst (Prod.fst (Prod.snd (Prod.snd (Prod.snd (Prod.snd (Prod.snd (Prod.snd (Prod.snd (Prod.snd (Prod.snd (Prod.fst x'3)))))))))))) (Prod.snd (Prod.fst (Prod.snd (Prod.snd (Prod.snd
    (Prod.snd (Prod.snd (Prod.snd (Prod.snd (Prod.snd (Prod.snd (Prod.fst x'3)))))))))))) [Eng.PS.elt (0 : Nat) (1 : Nat)]]) (Eng.SV.fn (Go.Fn.func (38 : Go.FuncId)) [] [Eng.SV.ptr (900001 : Nat) (Prod.fst (Prod.snd (Prod.snd (Prod.snd x7)))) (0 : Nat) [Eng.PS.elt (0 : Nat) (1 : Nat)]])) ∧ ((Prod.fst (Prod.fst (Prod.snd (Prod.snd (Prod.fst x'3)))) = sb ∧ Prod.fst (Prod.snd (Prod.fst (Prod.snd (Prod.snd
    (Prod.fst x'3))))) = so ∧ Bool.false = Bool.false ∧ (1 : Nat) ≤ (1 : Nat) ∧ (1 : Nat) ≤ (1 : Nat) ∧ (1 : Nat) ≤ (1 : Nat)) ∧ Prod.fst (Prod.snd (Prod.snd (Prod.fst (Prod.snd (Prod.snd (Prod.fst x'3)))))) = Prod.fst (Prod.fst x7) ∧ Prod.fst (Prod.snd (Prod.snd (Prod.snd (Prod.fst (Prod.snd (Prod.snd (Prod.fst x'3))))))) = Prod.fst (Prod.snd (Prod.fst x7))) ∧ ((Eng.OwnD.b (Prod.fst (Prod.snd
    (Prod.snd (Prod.snd (Prod.snd (Prod.fst x'3)))))) = Eng.OwnD.b (Prod.fst (Prod.snd (Prod.snd (Prod.fst x7)))) ∧ Eng.OwnD.off (Prod.fst (Prod.snd (Prod.snd (Prod.snd (Prod.snd (Prod.fst x'3)))))) = Eng.OwnD.off (Prod.fst (Prod.snd (Prod.snd (Prod.fst x7)))) ∧ Eng.OwnD.ez (Prod.fst (Prod.snd (Prod.snd (Prod.snd (Prod.snd (Prod.fst x'3)))))) = Eng.OwnD.ez (Prod.fst (Prod.snd (Prod.snd (Prod.fst x7))))
    ∧ Eng.OwnD.m (Prod.fst (Prod.snd (Prod.snd (Prod.fst x7)))) ≤ Eng.OwnD.m (Prod.fst (Prod.snd (Prod.snd (Prod.snd (Prod.snd (Prod.fst x'3)))))) ∧ Eng.OwnD.m (Prod.fst (Prod.snd (Prod.snd (Prod.fst x7)))) ≤ Eng.OwnD.cap (Prod.fst (Prod.snd (Prod.snd (Prod.fst x7)))) ∧ Eng.OwnD.cap (Prod.fst (Prod.snd (Prod.snd (Prod.fst x7)))) ≤ Eng.OwnD.cap (Prod.fst (Prod.snd (Prod.snd (Prod.snd (Prod.snd (Prod.fst
    x'3))))))) ∧ ∀ (i15 : Nat), i15 < Eng.OwnD.m (Prod.fst (Prod.snd (Prod.snd (Prod.fst x7)))) → (if i15 < Eng.OwnD.n (Prod.fst (Prod.snd (Prod.snd (Prod.snd (Prod.snd (Prod.fst x'3)))))) - Int.toNat (Prod.fst (Prod.snd x'3)) then Eng.OwnD.f (Prod.fst (Prod.snd (Prod.snd (Prod.snd (Prod.snd (Prod.fst x'3)))))) (i15 + Int.toNat (Prod.fst (Prod.snd x'3))) else Eng.OwnD.f (Prod.fst (Prod.snd (Prod.snd
    (Prod.snd (Prod.snd (Prod.fst x'3)))))) i15) = Eng.OwnD.f (Prod.fst (Prod.snd (Prod.snd (Prod.fst x7)))) i15) ∧ Mk.feedL (Mk.FV.fd (fb, fo, (sb, so, tk, lk, ()), len, Eng.OwnD.mk b off n c z m cap ez f, pl, op, wg, ms, gv, ())) (Eng.RowD.mk rb ro rn rc rz rf) x7 ∧ ((2 : Nat) * Eng.OwnD.n (Prod.fst (Prod.snd (Prod.snd (Prod.fst x7)))) + if Prod.fst (Prod.snd (Prod.fst x7)) = Bool.true then (1 : Nat)
    else (0 : Nat)) < (2 : Nat) * Eng.OwnD.n (Prod.fst (Prod.snd (Prod.snd (Prod.fst x4)))) + if Prod.fst (Prod.snd (Prod.fst x4)) = Bool.true then (1 : Nat) else (0 : Nat)
def feed_Q7 (x4 : (Int × Bool × Eng.OwnD Int × Int × Bool × Int × Int) × Nat × (Nat × Nat × Nat) × Nat × (Nat → Int × Int × Nat × Nat × Nat × (Nat → Int))) (len : Int) (fb : Nat) (fo : Nat) (sb : Nat) (so : Nat) (tk : Int) (lk : Bool) (b : Nat) (off : Nat) (n : Nat) (c : Nat) (z : Bool) (m : Nat) (cap : Nat) (ez : Bool) (f : Nat → Int) (pl : Int) (op : Bool) (wg : Int) (ms : Int) (gv : Go.Value)
    (rb : Nat) (ro : Nat) (rn : Nat) (rc : Nat) (rz : Bool) (rf : Nat → Int) : Prop := ∃ (x5 : (Int × Bool × Eng.OwnD Int × Int × Bool × Int × Int) × Nat × (Nat × Nat × Nat) × Nat × (Nat → Int × Int × Nat × Nat × Nat × (Nat → Int))), ((0 : Nat) = (0 : Nat) ∧ Prod.fst (Prod.snd (Prod.snd (Prod.snd x4))) = Prod.fst (Prod.snd (Prod.snd (Prod.snd x5))) ∧ (0 : Nat) = (0 : Nat)) ∧ ((Prod.fst (Prod.snd
    (Prod.snd (Prod.snd x4))) = Prod.fst (Prod.snd (Prod.snd (Prod.snd x5))) ∧ (0 : Nat) = (0 : Nat) ∧ Bool.false = Bool.false ∧ (1 : Nat) ≤ (1 : Nat) ∧ (1 : Nat) ≤ (1 : Nat) ∧ (1 : Nat) ≤ (1 : Nat)) ∧ Prod.fst (Prod.fst (Prod.snd (Prod.snd x4))) = Prod.fst (Prod.fst (Prod.snd (Prod.snd x5))) ∧ Prod.fst (Prod.snd (Prod.fst (Prod.snd (Prod.snd x4)))) = Prod.fst (Prod.snd (Prod.fst (Prod.snd (Prod.snd
    x5)))) ∧ (0 : Nat) = (0 : Nat) ∧ Prod.fst (Prod.snd x4) = Prod.fst (Prod.snd x5) ∧ Prod.snd (Prod.snd (Prod.fst (Prod.snd (Prod.snd x4)))) = Prod.snd (Prod.snd (Prod.fst (Prod.snd (Prod.snd x5)))) ∧ Nat.beq (Prod.fst (Prod.snd x4)) (0 : Nat) = Nat.beq (Prod.fst (Prod.snd x5)) (0 : Nat)) ∧ ((Prod.fst (Prod.fst (Prod.snd (Prod.snd x4))) = Prod.fst (Prod.fst (Prod.snd (Prod.snd x5))) ∧ Prod.fst
    (Prod.snd (Prod.fst (Prod.snd (Prod.snd x4)))) = Prod.fst (Prod.snd (Prod.fst (Prod.snd (Prod.snd x5)))) ∧ Nat.beq (Prod.fst (Prod.snd x4)) (0 : Nat) = Nat.beq (Prod.fst (Prod.snd x5)) (0 : Nat) ∧ Prod.fst (Prod.snd x5) ≤ Prod.fst (Prod.snd x4) ∧ Prod.fst (Prod.snd x5) ≤ Prod.snd (Prod.snd (Prod.fst (Prod.snd (Prod.snd x5)))) ∧ Prod.snd (Prod.snd (Prod.fst (Prod.snd (Prod.snd x5)))) ≤ Prod.snd
    (Prod.snd (Prod.fst (Prod.snd (Prod.snd x4))))) ∧ ∀ (i7 : Nat), i7 < Prod.fst (Prod.snd x5) → Prod.fst (Prod.snd (Prod.snd (Prod.snd (Prod.snd x4))) i7) = Prod.fst (Prod.snd (Prod.snd (Prod.snd (Prod.snd x5))) i7) ∧ Prod.fst (Prod.snd (Prod.snd (Prod.snd (Prod.snd (Prod.snd x4))) i7)) = Prod.fst (Prod.snd (Prod.snd (Prod.snd (Prod.snd (Prod.snd x5))) i7)) ∧ Prod.fst (Prod.snd (Prod.snd (Prod.snd
    (Prod.snd (Prod.snd (Prod.snd x4))) i7))) = Prod.fst (Prod.snd (Prod.snd (Prod.snd (Prod.snd (Prod.snd (Prod.snd x5))) i7))) ∧ Prod.fst (Prod.snd (Prod.snd (Prod.snd (Prod.snd (Prod.snd (Prod.snd (Prod.snd x4))) i7)))) = Prod.fst (Prod.snd (Prod.snd (Prod.snd (Prod.snd (Prod.snd (Prod.snd (Prod.snd x5))) i7)))) ∧ (0 : Nat) = (0 : Nat) ∧ Int.toNat len = Int.toNat len ∧ Prod.fst (Prod.snd (Prod.snd
    (Prod.snd (Prod.snd (Prod.snd (Prod.snd (Prod.snd (Prod.snd x4))) i7))))) = Prod.fst (Prod.snd (Prod.snd (Prod.snd (Prod.snd (Prod.snd (Prod.snd (Prod.snd (Prod.snd x5))) i7))))) ∧ Bool.false = Bool.false) ∧ (∀ (i8 : Nat), i8 < Prod.fst (Prod.snd x5) → ∃ (x6 : Nat), x6 < Prod.fst (Prod.snd x4) ∧ (Prod.fst (Prod.snd (Prod.snd (Prod.snd (Prod.snd (Prod.snd (Prod.snd x4))) x6))), Prod.fst (Prod.snd
    (Prod.snd (Prod.snd (Prod.snd (Prod.snd (Prod.snd (Prod.snd x4))) x6))))) = (Prod.fst (Prod.snd (Prod.snd (Prod.snd (Prod.snd (Prod.snd (Prod.snd x5))) i8))), Prod.fst (Prod.snd (Prod.snd (Prod.snd (Prod.snd (Prod.snd (Prod.snd (Prod.snd x5))) i8))))) ∧ Int.toNat len = Int.toNat len ∧ ∀ (k3 : Nat), k3 < Int.toNat len → Prod.snd (Prod.snd (Prod.snd (Prod.snd (Prod.snd (Prod.snd (Prod.snd (Prod.snd
    (Prod.snd x4))) x6))))) k3 = Prod.snd (Prod.snd (Prod.snd (Prod.snd (Prod.snd (Prod.snd (Prod.snd (Prod.snd (Prod.snd x5))) i8))))) k3) ∧ ((fb = fb ∧ fo = fo ∧ Bool.false = Bool.false ∧ (1 : Nat) ≤ (1 : Nat) ∧ (1 : Nat) ≤ (1 : Nat) ∧ (1 : Nat) ≤ (1 : Nat)) ∧ ((0 : Nat) = (0 : Nat) ∧ sb = sb ∧ so = so) ∧ len = len ∧ (Eng.OwnD.b (Prod.fst (Prod.snd (Prod.snd (Prod.fst x4)))) = Eng.OwnD.b (Prod.fst
    (Prod.snd (Prod.snd (Prod.fst x5)))) ∧ Eng.OwnD.off (Prod.fst (Prod.snd (Prod.snd (Prod.fst x4)))) = Eng.OwnD.off (Prod.fst (Prod.snd (Prod.snd (Prod.fst x5)))) ∧ (0 : Nat) = (0 : Nat) ∧ Eng.OwnD.n (Prod.fst (Prod.snd (Prod.snd (Prod.fst x4)))) = Eng.OwnD.n (Prod.fst (Prod.snd (Prod.snd (Prod.fst x5)))) ∧ Eng.OwnD.c (Prod.fst (Prod.snd (Prod.snd (Prod.fst x4)))) = Eng.OwnD.c (Prod.fst (Prod.snd
    (Prod.snd (Prod.fst x5)))) ∧ Eng.OwnD.z (Prod.fst (Prod.snd (Prod.snd (Prod.fst x4)))) = Eng.OwnD.z (Prod.fst (Prod.snd (Prod.snd (Prod.fst x5))))) ∧ Prod.fst (Prod.snd (Prod.snd (Prod.snd (Prod.fst x4)))) = Prod.fst (Prod.snd (Prod.snd (Prod.snd (Prod.fst x5)))) ∧ Prod.fst (Prod.snd (Prod.snd (Prod.snd (Prod.snd (Prod.fst x4))))) = Prod.fst (Prod.snd (Prod.snd (Prod.snd (Prod.snd (Prod.fst x5)))))
    ∧ Prod.fst (Prod.snd (Prod.snd (Prod.snd (Prod.snd (Prod.snd (Prod.fst x4)))))) = Prod.fst (Prod.snd (Prod.snd (Prod.snd (Prod.snd (Prod.snd (Prod.fst x5)))))) ∧ Prod.snd (Prod.snd (Prod.snd (Prod.snd (Prod.snd (Prod.snd (Prod.fst x4)))))) = Prod.snd (Prod.snd (Prod.snd (Prod.snd (Prod.snd (Prod.snd (Prod.fst x5)))))) ∧ Eng.SVeq (Eng.SV.fn (Go.Fn.func (38 : Go.FuncId)) [] [Eng.SV.ptr (900001 : Nat)
    (Prod.fst (Prod.snd (Prod.snd (Prod.snd x4)))) (0 : Nat) [Eng.PS.elt (0 : Nat) (1 : Nat)]]) (Eng.SV.fn (Go.Fn.func (38 : Go.FuncId)) [] [Eng.SV.ptr (900001 : Nat) (Prod.fst (Prod.snd (Prod.snd (Prod.snd x5)))) (0 : Nat) [Eng.PS.elt (0 : Nat) (1 : Nat)]])) ∧ ((sb = sb ∧ so = so ∧ Bool.false = Bool.false ∧ (1 : Nat) ≤ (1 : Nat) ∧ (1 : Nat) ≤ (1 : Nat) ∧ (1 : Nat) ≤ (1 : Nat)) ∧ Prod.fst (Prod.fst x4)
    = Prod.fst (Prod.fst x5) ∧ Prod.fst (Prod.snd (Prod.fst x4)) = Prod.fst (Prod.snd (Prod.fst x5))) ∧ ((Eng.OwnD.b (Prod.fst (Prod.snd (Prod.snd (Prod.fst x4)))) = Eng.OwnD.b (Prod.fst (Prod.snd (Prod.snd (Prod.fst x5)))) ∧ Eng.OwnD.off (Prod.fst (Prod.snd (Prod.snd (Prod.fst x4)))) = Eng.OwnD.off (Prod.fst (Prod.snd (Prod.snd (Prod.fst x5)))) ∧ Eng.OwnD.ez (Prod.fst (Prod.snd (Prod.snd (Prod.fst
    x4)))) = Eng.OwnD.ez (Prod.fst (Prod.snd (Prod.snd (Prod.fst x5)))) ∧ Eng.OwnD.m (Prod.fst (Prod.snd (Prod.snd (Prod.fst x5)))) ≤ Eng.OwnD.m (Prod.fst (Prod.snd (Prod.snd (Prod.fst x4)))) ∧ Eng.OwnD.m (Prod.fst (Prod.snd (Prod.snd (Prod.fst x5)))) ≤ Eng.OwnD.cap (Prod.fst (Prod.snd (Prod.snd (Prod.fst x5)))) ∧ Eng.OwnD.cap (Prod.fst (Prod.snd (Prod.snd (Prod.fst x5)))) ≤ Eng.OwnD.cap (Prod.fst
    (Prod.snd (Prod.snd (Prod.fst x4))))) ∧ ∀ (i9 : Nat), i9 < Eng.OwnD.m (Prod.fst (Prod.snd (Prod.snd (Prod.fst x5)))) → Eng.OwnD.f (Prod.fst (Prod.snd (Prod.snd (Prod.fst x4)))) i9 = Eng.OwnD.f (Prod.fst (Prod.snd (Prod.snd (Prod.fst x5)))) i9) ∧ Mk.feedL (Mk.FV.fd (fb, fo, (sb, so, tk, lk, ()), len, Eng.OwnD.mk b off n c z m cap ez f, pl, op, wg, ms, gv, ())) (Eng.RowD.mk rb ro rn rc rz rf) x5 ∧
    ((2 : Nat) * Eng.OwnD.n (Prod.fst (Prod.snd (Prod.snd (Prod.fst x5)))) + if Prod.fst (Prod.snd (Prod.fst x5)) = Bool.true then (1 : Nat) else (0 : Nat)) < (2 : Nat) * Eng.OwnD.n (Prod.fst (Prod.snd (Prod.snd (Prod.fst x4)))) + if Prod.fst (Prod.snd (Prod.fst x4)) = Bool.true then (1 : Nat) else (0 : Nat)
def feed_Q8 (x4 : (Int × Bool × Eng.OwnD Int × Int × Bool × Int × Int) × Nat × (Nat × Nat × Nat) × Nat × (Nat → Int × Int × Nat × Nat × Nat × (Nat → Int))) (rb : Nat) (ro : Nat) (rn : Nat) (rc : Nat) (rz : Bool) (rf : Nat → Int) (fb : Nat) (fo : Nat) (sb : Nat) (so : Nat) (len : Int) (tk : Int) (lk : Bool) (b : Nat) (off : Nat) (n : Nat) (c : Nat) (z : Bool) (m : Nat) (cap : Nat) (ez : Bool) (f :
    Nat → Int) (pl : Int) (op : Bool) (wg : Int) (ms : Int) (gv : Go.Value) : Prop := ∃ (x6 : ((Int × Bool × Eng.OwnD Int × Int × Bool × Int × Int) × Nat × (Nat × Nat × Nat) × Nat × (Nat → Int × Int × Nat × Nat × Nat × (Nat → Int))) × Go.Value), ((Prod.fst (Prod.fst (Prod.snd (Prod.snd x4))) = Prod.fst (Prod.fst (Prod.snd (Prod.snd (Prod.fst x6)))) ∧ Prod.fst (Prod.snd (Prod.fst (Prod.snd (Prod.snd
    x4)))) = Prod.fst (Prod.snd (Prod.fst (Prod.snd (Prod.snd (Prod.fst x6))))) ∧ (0 : Nat) = (0 : Nat) ∧ Prod.fst (Prod.snd x4) = Prod.fst (Prod.snd (Prod.fst x6)) ∧ Prod.snd (Prod.snd (Prod.fst (Prod.snd (Prod.snd x4)))) = Prod.snd (Prod.snd (Prod.fst (Prod.snd (Prod.snd (Prod.fst x6))))) ∧ Nat.beq (Prod.fst (Prod.snd x4)) (0 : Nat) = Nat.beq (Prod.fst (Prod.snd (Prod.fst x6))) (0 : Nat)) ∧ (0 : Int)
    = Mk.feedE (Eng.RowD.mk rb ro rn rc rz rf)) ∧ ((fb = fb ∧ fo = fo ∧ Bool.false = Bool.false ∧ (1 : Nat) ≤ (1 : Nat) ∧ (1 : Nat) ≤ (1 : Nat) ∧ (1 : Nat) ≤ (1 : Nat)) ∧ ((0 : Nat) = (0 : Nat) ∧ sb = sb ∧ so = so) ∧ len = len ∧ (Eng.OwnD.b (Prod.fst (Prod.snd (Prod.snd (Prod.fst x4)))) = Eng.OwnD.b (Prod.fst (Prod.snd (Prod.snd (Prod.fst (Prod.fst x6))))) ∧ Eng.OwnD.off (Prod.fst (Prod.snd (Prod.snd
    (Prod.fst x4)))) = Eng.OwnD.off (Prod.fst (Prod.snd (Prod.snd (Prod.fst (Prod.fst x6))))) ∧ (0 : Nat) = (0 : Nat) ∧ Eng.OwnD.n (Prod.fst (Prod.snd (Prod.snd (Prod.fst x4)))) = Eng.OwnD.n (Prod.fst (Prod.snd (Prod.snd (Prod.fst (Prod.fst x6))))) ∧ Eng.OwnD.c (Prod.fst (Prod.snd (Prod.snd (Prod.fst x4)))) = Eng.OwnD.c (Prod.fst (Prod.snd (Prod.snd (Prod.fst (Prod.fst x6))))) ∧ Eng.OwnD.z (Prod.fst
    (Prod.snd (Prod.snd (Prod.fst x4)))) = Eng.OwnD.z (Prod.fst (Prod.snd (Prod.snd (Prod.fst (Prod.fst x6)))))) ∧ Prod.fst (Prod.snd (Prod.snd (Prod.snd (Prod.fst x4)))) = Prod.fst (Prod.snd (Prod.snd (Prod.snd (Prod.fst (Prod.fst x6))))) ∧ Prod.fst (Prod.snd (Prod.snd (Prod.snd (Prod.snd (Prod.fst x4))))) = Prod.fst (Prod.snd (Prod.snd (Prod.snd (Prod.snd (Prod.fst (Prod.fst x6)))))) ∧ Prod.fst
    (Prod.snd (Prod.snd (Prod.snd (Prod.snd (Prod.snd (Prod.fst x4)))))) = Prod.fst (Prod.snd (Prod.snd (Prod.snd (Prod.snd (Prod.snd (Prod.fst (Prod.fst x6))))))) ∧ Prod.snd (Prod.snd (Prod.snd (Prod.snd (Prod.snd (Prod.snd (Prod.fst x4)))))) = Prod.snd (Prod.snd (Prod.snd (Prod.snd (Prod.snd (Prod.snd (Prod.fst (Prod.fst x6))))))) ∧ Eng.SVeq (Eng.SV.fn (Go.Fn.func (38 : Go.FuncId)) [] [Eng.SV.ptr
    (900001 : Nat) (Prod.fst (Prod.snd (Prod.snd (Prod.snd x4)))) (0 : Nat) [Eng.PS.elt (0 : Nat) (1 : Nat)]]) (Eng.SV.val (Prod.snd x6))) ∧ ((sb = sb ∧ so = so ∧ Bool.false = Bool.false ∧ (1 : Nat) ≤ (1 : Nat) ∧ (1 : Nat) ≤ (1 : Nat) ∧ (1 : Nat) ≤ (1 : Nat)) ∧ Prod.fst (Prod.fst x4) = Prod.fst (Prod.fst (Prod.fst x6)) ∧ Prod.fst (Prod.snd (Prod.fst x4)) = Prod.fst (Prod.snd (Prod.fst (Prod.fst x6))))
    ∧ ((Eng.OwnD.b (Prod.fst (Prod.snd (Prod.snd (Prod.fst x4)))) = Eng.OwnD.b (Prod.fst (Prod.snd (Prod.snd (Prod.fst (Prod.fst x6))))) ∧ Eng.OwnD.off (Prod.fst (Prod.snd (Prod.snd (Prod.fst x4)))) = Eng.OwnD.off (Prod.fst (Prod.snd (Prod.snd (Prod.fst (Prod.fst x6))))) ∧ Eng.OwnD.ez (Prod.fst (Prod.snd (Prod.snd (Prod.fst x4)))) = Eng.OwnD.ez (Prod.fst (Prod.snd (Prod.snd (Prod.fst (Prod.fst x6)))))
    ∧ Eng.OwnD.m (Prod.fst (Prod.snd (Prod.snd (Prod.fst (Prod.fst x6))))) ≤ Eng.OwnD.m (Prod.fst (Prod.snd (Prod.snd (Prod.fst x4)))) ∧ Eng.OwnD.m (Prod.fst (Prod.snd (Prod.snd (Prod.fst (Prod.fst x6))))) ≤ Eng.OwnD.cap (Prod.fst (Prod.snd (Prod.snd (Prod.fst (Prod.fst x6))))) ∧ Eng.OwnD.cap (Prod.fst (Prod.snd (Prod.snd (Prod.fst (Prod.fst x6))))) ≤ Eng.OwnD.cap (Prod.fst (Prod.snd (Prod.snd
    (Prod.fst x4))))) ∧ ∀ (i10 : Nat), i10 < Eng.OwnD.m (Prod.fst (Prod.snd (Prod.snd (Prod.fst (Prod.fst x6))))) → Eng.OwnD.f (Prod.fst (Prod.snd (Prod.snd (Prod.fst x4)))) i10 = Eng.OwnD.f (Prod.fst (Prod.snd (Prod.snd (Prod.fst (Prod.fst x6))))) i10) ∧ ((Prod.fst (Prod.fst (Prod.snd (Prod.snd x4))) = Prod.fst (Prod.fst (Prod.snd (Prod.snd (Prod.fst x6)))) ∧ Prod.fst (Prod.snd (Prod.fst (Prod.snd
    (Prod.snd x4)))) = Prod.fst (Prod.snd (Prod.fst (Prod.snd (Prod.snd (Prod.fst x6))))) ∧ Nat.beq (Prod.fst (Prod.snd x4)) (0 : Nat) = Nat.beq (Prod.fst (Prod.snd (Prod.fst x6))) (0 : Nat) ∧ Prod.fst (Prod.snd (Prod.fst x6)) ≤ Prod.fst (Prod.snd x4) ∧ Prod.fst (Prod.snd (Prod.fst x6)) ≤ Prod.snd (Prod.snd (Prod.fst (Prod.snd (Prod.snd (Prod.fst x6))))) ∧ Prod.snd (Prod.snd (Prod.fst (Prod.snd
    (Prod.snd (Prod.fst x6))))) ≤ Prod.snd (Prod.snd (Prod.fst (Prod.snd (Prod.snd x4))))) ∧ ∀ (i11 : Nat), i11 < Prod.fst (Prod.snd (Prod.fst x6)) → Prod.fst (Prod.snd (Prod.snd (Prod.snd (Prod.snd x4))) i11) = Prod.fst (Prod.snd (Prod.snd (Prod.snd (Prod.snd (Prod.fst x6)))) i11) ∧ Prod.fst (Prod.snd (Prod.snd (Prod.snd (Prod.snd (Prod.snd x4))) i11)) = Prod.fst (Prod.snd (Prod.snd (Prod.snd
    (Prod.snd (Prod.snd (Prod.fst x6)))) i11)) ∧ Prod.fst (Prod.snd (Prod.snd (Prod.snd (Prod.snd (Prod.snd (Prod.snd x4))) i11))) = Prod.fst (Prod.snd (Prod.snd (Prod.snd (Prod.snd (Prod.snd (Prod.snd (Prod.fst x6)))) i11))) ∧ Prod.fst (Prod.snd (Prod.snd (Prod.snd (Prod.snd (Prod.snd (Prod.snd (Prod.snd x4))) i11)))) = Prod.fst (Prod.snd (Prod.snd (Prod.snd (Prod.snd (Prod.snd (Prod.snd (Prod.snd
    (Prod.fst x6)))) i11)))) ∧ (0 : Nat) = (0 : Nat) ∧ Int.toNat len = Int.toNat len ∧ Prod.fst (Prod.snd (Prod.snd (Prod.snd (Prod.snd (Prod.snd (Prod.snd (Prod.snd (Prod.snd x4))) i11))))) = Prod.fst (Prod.snd (Prod.snd (Prod.snd (Prod.snd (Prod.snd (Prod.snd (Prod.snd (Prod.snd (Prod.fst x6)))) i11))))) ∧ Bool.false = Bool.false) ∧ (∀ (i12 : Nat), i12 < Prod.fst (Prod.snd (Prod.fst x6)) → ∃ (x7 :
    Nat), x7 < Prod.fst (Prod.snd x4) ∧ (Prod.fst (Prod.snd (Prod.snd (Prod.snd (Prod.snd (Prod.snd (Prod.snd x4))) x7))), Prod.fst (Prod.snd (Prod.snd (Prod.snd (Prod.snd (Prod.snd (Prod.snd (Prod.snd x4))) x7))))) = (Prod.fst (Prod.snd (Prod.snd (Prod.snd (Prod.snd (Prod.snd (Prod.snd (Prod.fst x6)))) i12))), Prod.fst (Prod.snd (Prod.snd (Prod.snd (Prod.snd (Prod.snd (Prod.snd (Prod.snd (Prod.fst
    x6)))) i12))))) ∧ Int.toNat len = Int.toNat len ∧ ∀ (k3 : Nat), k3 < Int.toNat len → Prod.snd (Prod.snd (Prod.snd (Prod.snd (Prod.snd (Prod.snd (Prod.snd (Prod.snd (Prod.snd x4))) x7))))) k3 = Prod.snd (Prod.snd (Prod.snd (Prod.snd (Prod.snd (Prod.snd (Prod.snd (Prod.snd (Prod.snd (Prod.fst x6)))) i12))))) k3) ∧ Mk.feedP (Mk.FV.fd (fb, fo, (sb, so, tk, lk, ()), len, Eng.OwnD.mk b off n c z m cap ez
    f, pl, op, wg, ms, gv, ())) (Eng.RowD.mk rb ro rn rc rz rf) (Prod.fst x6, (0 : Nat), (0 : Nat))
def feed_Q9 (x4 : (Int × Bool × Eng.OwnD Int × Int × Bool × Int × Int) × Nat × (Nat × Nat × Nat) × Nat × (Nat → Int × Int × Nat × Nat × Nat × (Nat → Int))) (b8 : Nat) (b9 : Nat) (b10 : Nat) (len : Int) (y1 : Nat × Nat × Nat) (x'2 : Eng.RowD Int × Unit) (x'3 : (Nat × Nat × (Nat × Nat × Int × Bool × Unit) × Int × Eng.OwnD Int × Int × Bool × Int × Int × (Nat × Nat) × Unit) × Int × Unit) (fb : Nat) (fo
    : Nat) (sb : Nat) (so : Nat) (tk : Int) (lk : Bool) (b : Nat) (off : Nat) (n : Nat) (c : Nat) (z : Bool) (m : Nat) (cap : Nat) (ez : Bool) (f : Nat → Int) (pl : Int) (op : Bool) (wg : Int) (ms : Int) (gv : Go.Value) (rb : Nat) (ro : Nat) (rn : Nat) (rc : Nat) (rz : Bool) (rf : Nat → Int) : Prop := ∃ (x7 : (Int × Bool × Eng.OwnD Int × Int × Bool × Int × Int) × Nat × (Nat × Nat × Nat) × Nat × (Nat →
    Int × Int × Nat × Nat × Nat × (Nat → Int))), ((0 : Nat) = (0 : Nat) ∧ Prod.fst (Prod.snd (Prod.snd (Prod.snd x4))) = Prod.fst (Prod.snd (Prod.snd (Prod.snd x7))) ∧ (0 : Nat) = (0 : Nat)) ∧ ((Prod.fst (Prod.snd (Prod.snd (Prod.snd x4))) = Prod.fst (Prod.snd (Prod.snd (Prod.snd x7))) ∧ (0 : Nat) = (0 : Nat) ∧ Bool.false = Bool.false ∧ (1 : Nat) ≤ (1 : Nat) ∧ (1 : Nat) ≤ (1 : Nat) ∧ (1 : Nat) ≤ (1 :
    Nat)) ∧ b8 = Prod.fst (Prod.fst (Prod.snd (Prod.snd x7))) ∧ b9 = Prod.fst (Prod.snd (Prod.fst (Prod.snd (Prod.snd x7)))) ∧ (0 : Nat) = (0 : Nat) ∧ Prod.fst (Prod.snd x4) + (1 : Nat) = Prod.fst (Prod.snd x7) ∧ b10 = Prod.snd (Prod.snd (Prod.fst (Prod.snd (Prod.snd x7)))) ∧ (Nat.beq (Prod.fst (Prod.snd x4)) (0 : Nat) && Decidable.decide ((1 : Nat) = (0 : Nat))) = Nat.beq (Prod.fst (Prod.snd x7)) (0 :
    Nat)) ∧ ((b8 = Prod.fst (Prod.fst (Prod.snd (Prod.snd x7))) ∧ b9 = Prod.fst (Prod.snd (Prod.fst (Prod.snd (Prod.snd x7)))) ∧ (Nat.beq (Prod.fst (Prod.snd x4)) (0 : Nat) && Decidable.decide ((1 : Nat) = (0 : Nat))) = Nat.beq (Prod.fst (Prod.snd x7)) (0 : Nat) ∧ Prod.fst (Prod.snd x7) ≤ Prod.fst (Prod.snd x4) + (1 : Nat) ∧ Prod.fst (Prod.snd x7) ≤ Prod.snd (Prod.snd (Prod.fst (Prod.snd (Prod.snd
    x7)))) ∧ Prod.snd (Prod.snd (Prod.fst (Prod.snd (Prod.snd x7)))) ≤ b10) ∧ ∀ (i13 : Nat), i13 < Prod.fst (Prod.snd x7) → (if i13 < Prod.fst (Prod.snd x4) then Prod.fst (Prod.snd (Prod.snd (Prod.snd (Prod.snd x4))) i13) else Prod.fst (Prod.snd (Prod.snd (Prod.snd (Prod.fst x4))))) = Prod.fst (Prod.snd (Prod.snd (Prod.snd (Prod.snd x7))) i13) ∧ (if i13 < Prod.fst (Prod.snd x4) then Prod.fst (Prod.snd
    (Prod.snd (Prod.snd (Prod.snd (Prod.snd x4))) i13)) else Prod.fst (Prod.snd (Prod.snd (Prod.snd (Prod.snd (Prod.snd (Prod.fst x4))))))) = Prod.fst (Prod.snd (Prod.snd (Prod.snd (Prod.snd (Prod.snd x7))) i13)) ∧ Eng.eqv3 (if i13 < Prod.fst (Prod.snd x4) then Eng.SV.slice (801 : Nat) (Prod.fst (Prod.snd (Prod.snd (Prod.snd (Prod.snd (Prod.snd (Prod.snd x4))) i13)))) (Prod.fst (Prod.snd (Prod.snd
    (Prod.snd (Prod.snd (Prod.snd (Prod.snd (Prod.snd x4))) i13))))) [Eng.PS.elt i13 (0 : Nat)] (1 : Nat) (0 : Nat) (Int.toNat len) (Prod.fst (Prod.snd (Prod.snd (Prod.snd (Prod.snd (Prod.snd (Prod.snd (Prod.snd (Prod.snd x4))) i13)))))) Bool.false else Eng.SV.slice (100 : Nat) (Prod.fst y1) (Prod.fst (Prod.snd y1)) [] (1 : Nat) (0 : Nat) (Eng.RowD.n (Prod.fst x'2)) (Prod.snd (Prod.snd y1)) Bool.false)
    (Eng.SV.slice (801 : Nat) (Prod.fst (Prod.snd (Prod.snd (Prod.snd (Prod.snd (Prod.snd (Prod.snd x7))) i13)))) (Prod.fst (Prod.snd (Prod.snd (Prod.snd (Prod.snd (Prod.snd (Prod.snd (Prod.snd x7))) i13))))) [Eng.PS.elt i13 (0 : Nat)] (1 : Nat) (0 : Nat) (Int.toNat len) (Prod.fst (Prod.snd (Prod.snd (Prod.snd (Prod.snd (Prod.snd (Prod.snd (Prod.snd (Prod.snd x7))) i13)))))) Bool.false)) ∧ (∀ (i14 :
    Nat), i14 < Prod.fst (Prod.snd x7) → (∃ (x8 : Nat), x8 < Prod.fst (Prod.snd x4) ∧ (Prod.fst (Prod.snd (Prod.snd (Prod.snd (Prod.snd (Prod.snd (Prod.snd x4))) x8))), Prod.fst (Prod.snd (Prod.snd (Prod.snd (Prod.snd (Prod.snd (Prod.snd (Prod.snd x4))) x8))))) = (Prod.fst (Prod.snd (Prod.snd (Prod.snd (Prod.snd (Prod.snd (Prod.snd x7))) i14))), Prod.fst (Prod.snd (Prod.snd (Prod.snd (Prod.snd
    (Prod.snd (Prod.snd (Prod.snd x7))) i14))))) ∧ Int.toNat len = Int.toNat len ∧ ∀ (k5 : Nat), k5 < Int.toNat len → Prod.snd (Prod.snd (Prod.snd (Prod.snd (Prod.snd (Prod.snd (Prod.snd (Prod.snd (Prod.snd x4))) x8))))) k5 = Prod.snd (Prod.snd (Prod.snd (Prod.snd (Prod.snd (Prod.snd (Prod.snd (Prod.snd (Prod.snd x7))) i14))))) k5) ∨ Bool.false = Bool.false ∧ (Prod.fst y1, Prod.fst (Prod.snd y1)) =
    (Prod.fst (Prod.snd (Prod.snd (Prod.snd (Prod.snd (Prod.snd (Prod.snd x7))) i14))), Prod.fst (Prod.snd (Prod.snd (Prod.snd (Prod.snd (Prod.snd (Prod.snd (Prod.snd x7))) i14))))) ∧ Eng.RowD.n (Prod.fst x'2) = Int.toNat len ∧ ∀ (k6 : Nat), k6 < Eng.RowD.n (Prod.fst x'2) → Eng.RowD.f (Prod.fst x'2) k6 = Prod.snd (Prod.snd (Prod.snd (Prod.snd (Prod.snd (Prod.snd (Prod.snd (Prod.snd (Prod.snd x7)))
    i14))))) k6) ∧ ((Prod.fst (Prod.fst x'3) = fb ∧ Prod.fst (Prod.snd (Prod.fst x'3)) = fo ∧ Bool.false = Bool.false ∧ (1 : Nat) ≤ (1 : Nat) ∧ (1 : Nat) ≤ (1 : Nat) ∧ (1 : Nat) ≤ (1 : Nat)) ∧ ((0 : Nat) = (0 : Nat) ∧ Prod.fst (Prod.fst (Prod.snd (Prod.snd (Prod.fst x'3)))) = sb ∧ Prod.fst (Prod.snd (Prod.fst (Prod.snd (Prod.snd (Prod.fst x'3))))) = so) ∧ Prod.fst (Prod.snd (Prod.snd (Prod.snd
    (Prod.fst x'3)))) = len ∧ (Eng.OwnD.b (Prod.fst (Prod.snd (Prod.snd (Prod.snd (Prod.snd (Prod.fst x'3)))))) = Eng.OwnD.b (Prod.fst (Prod.snd (Prod.snd (Prod.fst x7)))) ∧ Eng.OwnD.off (Prod.fst (Prod.snd (Prod.snd (Prod.snd (Prod.snd (Prod.fst x'3)))))) = Eng.OwnD.off (Prod.fst (Prod.snd (Prod.snd (Prod.fst x7)))) ∧ (0 : Nat) = (0 : Nat) ∧ Eng.OwnD.n (Prod.fst (Prod.snd (Prod.snd (Prod.snd (Prod.snd
    (Prod.fst x'3)))))) - Int.toNat (Prod.fst (Prod.snd x'3)) = Eng.OwnD.n (Prod.fst (Prod.snd (Prod.snd (Prod.fst x7)))) ∧ Eng.OwnD.c (Prod.fst (Prod.snd (Prod.snd (Prod.snd (Prod.snd (Prod.fst x'3)))))) = Eng.OwnD.c (Prod.fst (Prod.snd (Prod.snd (Prod.fst x7)))) ∧ Eng.OwnD.z (Prod.fst (Prod.snd (Prod.snd (Prod.snd (Prod.snd (Prod.fst x'3)))))) = Eng.OwnD.z (Prod.fst (Prod.snd (Prod.snd (Prod.fst
    x7))))) ∧ Prod.fst (Prod.snd (Prod.snd (Prod.snd (Prod.snd (Prod.snd (Prod.fst x'3)))))) + (↑(Int.toNat (Prod.fst (Prod.snd x'3))) : Int) = Prod.fst (Prod.snd (Prod.snd (Prod.snd (Prod.fst x7)))) ∧ Prod.fst (Prod.snd (Prod.snd (Prod.snd (Prod.snd (Prod.snd (Prod.snd (Prod.fst x'3))))))) = Prod.fst (Prod.snd (Prod.snd (Prod.snd (Prod.snd (Prod.fst x7))))) ∧ Prod.fst (Prod.snd (Prod.snd (Prod.snd
    (Prod.snd (Prod.snd (Prod.snd (Prod.snd (Prod.fst x'3)))))))) = Prod.fst (Prod.snd (Prod.snd (Prod.snd (Prod.snd (Prod.snd (Prod.fst x7)))))) ∧ Prod.fst (Prod.snd (Prod.snd (Prod.snd (Prod.snd (Prod.snd (Prod.snd (Prod.snd (Prod.snd (Prod.fst x'3))))))))) = Prod.snd (Prod.snd (Prod.snd (Prod.snd (Prod.snd (Prod.snd (Prod.fst x7)))))) ∧ Eng.SVeq (Eng.SV.fn (Go.Fn.func (38 : Go.FuncId)) []
    [Eng.SV.ptr (900001 : Nat) (Prod.fst (Prod.fst (Prod.snd (Prod.snd (Prod.snd (Prod.snd (Prod.snd (Prod.snd (Prod.snd (Prod.snd (Prod.snd (Prod.fst x'3)))))))))))) (Prod.snd (Prod.fst (Prod.snd (Prod.snd (Prod.snd (Prod.snd (Prod.snd (Prod.snd (Prod.snd (Prod.snd (Prod.snd (Prod.fst x'3)))))))))))) [Eng.PS.elt (0 : Nat) (1 : Nat)]]) (Eng.SV.fn (Go.Fn.func (38 : Go.FuncId)) [] [Eng.SV.ptr (900001 :
    Nat) (Prod.fst (Prod.snd (Prod.snd (Prod.snd x7)))) (0 : Nat) [Eng.PS.elt (0 : Nat) (1 : Nat)]])) ∧ ((Prod.fst (Prod.fst (Prod.snd (Prod.snd (Prod.fst x'3)))) = sb ∧ Prod.fst (Prod.snd (Prod.fst (Prod.snd (Prod.snd (Prod.fst x'3))))) = so ∧ Bool.false = Bool.false ∧ (1 : Nat) ≤ (1 : Nat) ∧ (1 : Nat) ≤ (1 : Nat) ∧ (1 : Nat) ≤ (1 : Nat)) ∧ Prod.fst (Prod.snd (Prod.snd (Prod.fst (Prod.snd (Prod.snd
    (Prod.fst x'3)))))) = Prod.fst (Prod.fst x7) ∧ Prod.fst (Prod.snd (Prod.snd (Prod.snd (Prod.fst (Prod.snd (Prod.snd (Prod.fst x'3))))))) = Prod.fst (Prod.snd (Prod.fst x7))) ∧ ((Eng.OwnD.b (Prod.fst (Prod.snd (Prod.snd (Prod.snd (Prod.snd (Prod.fst x'3)))))) = Eng.OwnD.b (Prod.fst (Prod.snd (Prod.snd (Prod.fst x7)))) ∧ Eng.OwnD.off (Prod.fst (Prod.snd (Prod.snd (Prod.snd (Prod.snd (Prod.fst
    x'3)))))) = Eng.OwnD.off (Prod.fst (Prod.snd (Prod.snd (Prod.fst x7)))) ∧ Eng.OwnD.ez (Prod.fst (Prod.snd (Prod.snd (Prod.snd (Prod.snd (Prod.fst x'3)))))) = Eng.OwnD.ez (Prod.fst (Prod.snd (Prod.snd (Prod.fst x7)))) ∧ Eng.OwnD.m (Prod.fst (Prod.snd (Prod.snd (Prod.fst x7)))) ≤ Eng.OwnD.m (Prod.fst (Prod.snd (Prod.snd (Prod.snd (Prod.snd (Prod.fst x'3)))))) ∧ Eng.OwnD.m (Prod.fst (Prod.snd
    (Prod.snd (Prod.fst x7)))) ≤ Eng.OwnD.cap (Prod.fst (Prod.snd (Prod.snd (Prod.fst x7)))) ∧ Eng.OwnD.cap (Prod.fst (Prod.snd (Prod.snd (Prod.fst x7)))) ≤ Eng.OwnD.cap (Prod.fst (Prod.snd (Prod.snd (Prod.snd (Prod.snd (Prod.fst x'3))))))) ∧ ∀ (i15 : Nat), i15 < Eng.OwnD.m (Prod.fst (Prod.snd (Prod.snd (Prod.fst x7)))) → (if i15 < Eng.OwnD.n (Prod.fst (Prod.snd (Prod.snd (Prod.snd (Prod.snd (Prod.fst
    x'3)))))) - Int.toNat (Prod.fst (Prod.snd x'3)) then Eng.OwnD.f (Prod.fst (Prod.snd (Prod.snd (Prod.snd (Prod.snd (Prod.fst x'3)))))) (i15 + Int.toNat (Prod.fst (Prod.snd x'3))) else Eng.OwnD.f (Prod.fst (Prod.snd (Prod.snd (Prod.snd (Prod.snd (Prod.fst x'3)))))) i15) = Eng.OwnD.f (Prod.fst (Prod.snd (Prod.snd (Prod.fst x7)))) i15) ∧ Mk.feedL (Mk.FV.fd (fb, fo, (sb, so, tk, lk, ()), len,
    Eng.OwnD.mk b off n c z m cap ez f, pl, op, wg, ms, gv, ())) (Eng.RowD.mk rb ro rn rc rz rf) x7 ∧ ((2 : Nat) * Eng.OwnD.n (Prod.fst (Prod.snd (Prod.snd (Prod.fst x7)))) + if Prod.fst (Prod.snd (Prod.fst x7)) = Bool.true then (1 : Nat) else (0 : Nat)) < (2 : Nat) * Eng.OwnD.n (Prod.fst (Prod.snd (Prod.snd (Prod.fst x4)))) + if Prod.fst (Prod.snd (Prod.fst x4)) = Bool.true then (1 : Nat) else (0 :
    Nat)
theorem svr (v : SV) : SVeq v v := ⟨rfl, rfl, rfl, fun h => h⟩
section
variable {rb ro rn rc : Nat} {rz : Bool} {rf : Nat → Int} {fb fo sb so : Nat} {len : Int} {b off n c : Nat} {z : Bool} {pl : Int} {op : Bool} {wg ms : Int} {gv : Value} {tk : Int} {lk ez : Bool} {m cap : Nat} {f : Nat → Int}
theorem feed_Q2_ok (h : softB rf rn = false) (h2 : m ≤ cap) : feed_Q2 rb ro rn rc rz rf fb fo sb so len b off n c z pl op wg ms gv tk lk ez m cap f := by
  refine ⟨(((tk, lk, ⟨b, off, n, c, z, m, cap, ez, f⟩, pl, op, wg, ms), 0, (0, 0, 0), 0, fun _ => (0, 0, 0, 0, 0, fun _ => 0)), gv), ?_⟩
  have hE : (2 : Int) = feedE ⟨rb, ro, rn, rc, rz, rf⟩ := by unfold feedE; rw [h]; rfl
  have hP : feedP (fb, fo, (sb, so, tk, lk, ()), len, ⟨b, off, n, c, z, m, cap, ez, f⟩, pl, op, wg, ms, (0, 0), ()) ⟨rb, ro, rn, rc, rz, rf⟩ (((tk, lk, ⟨b, off, n, c, z, m, cap, ez, f⟩, pl, op, wg, ms), 0, (0, 0, 0), 0, fun _ => (0, 0, 0, 0, 0, fun _ => 0)), (0, 0)) := by
    unfold feedP
    rw [h, if_neg (by decide)]
    exact ⟨rfl, rfl, rfl⟩
  dsimp only
  repeat' (first | exact rfl | exact trivial | exact Nat.le_refl _ | assumption | exact nil_eqv rfl rfl rfl | exact svr _ | apply And.intro | (intro i hi; exact absurd hi (Nat.not_lt_zero _)) | intro _)
theorem push_abs (d : FD) (r : RowD Int) (l : OwnD Int) (t : Int) (g : Nat × Nat) (hn : l.n = d.l.n + r.n) (hf : ∀ i, i < l.n → l.f i = if i < d.l.n then d.l.f i else r.f (i - d.l.n)) : d.abs.push (rowL r.f r.n) = (d.upd (t, d.lk, l, d.pl, d.op, d.wg, d.ms) g).abs := by
  unfold FD.abs St.push FD.upd
  dsimp only [FD.l, FD.mk, FD.op, FD.wg, FD.pl, FD.ms, FD.lk]
  rw [rowL_app, hn]
  congr 1
  refine rowL_congr fun i hi => ?_
  rw [hf i (by rw [hn]; exact hi)]
theorem feed_Q3_ok {b2 b3 b4 b5 : Nat} {v2 : Int} (hp : feedPre (fb, fo, (sb, so, tk, lk, ()), len, ⟨b, off, n, c, z, m, cap, ez, f⟩, pl, op, wg, ms, (0, 0), ()) ⟨rb, ro, rn, rc, rz, rf⟩) (h1 : n + rn ≤ b5) (hv : v2 = IntKind.i64.wrap (tk + (rn : Int))) :
    feed_Q3 b2 fb fo sb so len b3 b4 n rn b5 z pl op wg ms v2 lk ez f rf tk b off c m cap gv := by
  obtain ⟨⟨⟨a1, a2, a3, a4⟩, a5, a6, a7, a8, a9⟩, p2, p3, p4, p5, p6, p7⟩ := hp
  dsimp only [FD.l, FD.pl, FD.ms, FD.lk, FD.op, FD.len] at a1 a2 a3 a4 a5 a6 a7 a8 a9 p2 p3 p4 p5 p6 p7
  refine ⟨((v2, lk, ⟨b3, b4, n + rn, b5, z && decide (rn = 0), n + rn, b5, ez && decide (rn = 0), fun i => if i < n then f i else rf (i - n)⟩, pl, op, wg, ms), 0, (0, 0, 0), b2, fun _ => (0, 0, 0, 0, 0, fun _ => 0)), ?_⟩
  have hS := push_abs (fb, fo, (sb, so, tk, lk, ()), len, ⟨b, off, n, c, z, m, cap, ez, f⟩, pl, op, wg, ms, (0, 0), ()) ⟨rb, ro, rn, rc, rz, rf⟩ ⟨b3, b4, n + rn, b5, z && decide (rn = 0), n + rn, b5, ez && decide (rn = 0), fun i => if i < n then f i else rf (i - n)⟩ v2 (b2, 0) rfl (fun i hi => rfl)
  have hSt : Steps len.toNat (St.push (FD.abs (fb, fo, (sb, so, tk, lk, ()), len, ⟨b, off, n, c, z, m, cap, ez, f⟩, pl, op, wg, ms, (0, 0), ())) (rowL rf rn)) (bkL len.toNat (fun _ => (0, 0, 0, 0, 0, fun _ => 0)) 0) (FD.abs (FD.upd (fb, fo, (sb, so, tk, lk, ()), len, ⟨b, off, n, c, z, m, cap, ez, f⟩, pl, op, wg, ms, (0, 0), ()) (v2, lk, ⟨b3, b4, n + rn, b5, z && decide (rn = 0), n + rn, b5, ez && decide (rn = 0), fun i => if i < n then f i else rf (i - n)⟩, pl, op, wg, ms) (b2, 0))) := by
    rw [hS]
    exact .refl _
  have hI : feedInv (FD.upd (fb, fo, (sb, so, tk, lk, ()), len, ⟨b, off, n, c, z, m, cap, ez, f⟩, pl, op, wg, ms, (0, 0), ()) (v2, lk, ⟨b3, b4, n + rn, b5, z && decide (rn = 0), n + rn, b5, ez && decide (rn = 0), fun i => if i < n then f i else rf (i - n)⟩, pl, op, wg, ms) (b2, 0)) (pl + n + rn) := by
    refine ⟨⟨⟨Nat.le_refl _, h1, h1, Nat.le_refl _⟩, fun h => ?_, a6, ?_, a8, a9⟩, fun h => ?_, p3, ?_⟩
    · have h : (z && decide (rn = 0)) = true := h
      rw [Bool.and_eq_true] at h
      show (ez && decide (rn = 0)) = true
      rw [a5 h.1, h.2]; rfl
    · show pl + ((n + rn : Nat) : Int) ≤ _
      omega
    · have h : (z && decide (rn = 0)) = true := h
      rw [Bool.and_eq_true, decide_eq_true_eq] at h
      have := p2 h.1
      show n + rn = 0
      omega
    · show pl + ((n + rn : Nat) : Int) = _
      omega
  have h33 : pl + ((33 * 0 : Nat) : Int) ≤ pl := by omega
  dsimp only
  repeat' (first | exact rfl | exact trivial | exact Nat.le_refl _ | assumption | exact nil_eqv rfl rfl rfl | exact svr _ | apply And.intro | (intro i hi; exact absurd hi (Nat.not_lt_zero _)) | intro _)
end
/-- What a finder's parts are. -/
abbrev FD.fy (e : FD) : FY := (e.tk, e.lk, e.l, e.pl, e.op, e.wg, e.ms)
def emitB (k : Nat) (B : Nat → BD) (x : BD) (i : Nat) : BD := if i < k then B i else x
section
variable {rb ro rn rc : Nat} {rz : Bool} {rf : Nat → Int} {fb fo sb so : Nat} {len : Int} {b off n c : Nat} {z : Bool} {pl : Int} {op : Bool} {wg ms : Int} {gv : Value} {tk : Int} {lk ez : Bool} {m cap : Nat} {f : Nat → Int}
theorem feed_Q5_ok {x4 : LX} {y1 : FD × Bool} (hs : softB rf rn = true) (k1 : y1.1.1 = fb) (k2 : y1.1.2.1 = fo) (k3 : y1.1.sb = sb) (k4 : y1.1.so = so) (k5 : y1.1.len = len) (hm : y1.1.l.m ≤ y1.1.l.cap) (hc : x4.2.1 ≤ x4.2.2.1.2.2)
    (hP : feedP (fb, fo, (sb, so, tk, lk, ()), len, ⟨b, off, n, c, z, m, cap, ez, f⟩, pl, op, wg, ms, (0, 0), ()) ⟨rb, ro, rn, rc, rz, rf⟩ ((y1.1.fy, x4.2), (0, 0))) : feed_Q5 x4 rb ro rn rc rz rf y1 fb fo sb so len tk lk b off n c z m cap ez f pl op wg ms gv := by
  have hE : (0 : Int) = feedE ⟨rb, ro, rn, rc, rz, rf⟩ := by unfold feedE; rw [hs]; rfl
  refine ⟨((y1.1.fy, x4.2), clV y1.1.gv), ?_⟩
  have hg : SVeq (.fn (.func 38) [] [.ptr 900001 y1.1.gv.1 y1.1.gv.2 [.elt 0 1]]) (.val (clV y1.1.gv)) := ⟨rfl, rfl, rfl, fun _ => trivial⟩
  dsimp only
  repeat' (first | exact rfl | exact trivial | exact Nat.le_refl _ | assumption | exact svr _ | apply And.intro | (intro i hi; exact ⟨i, hi, rfl, rfl, fun _ _ => rfl⟩) | intro _)
theorem feed_Q8_ok {x4 : LX} (hs : softB rf rn = true) (hm : x4.1.2.2.1.m ≤ x4.1.2.2.1.cap) (hc : x4.2.1 ≤ x4.2.2.1.2.2)
    (hP : feedP (fb, fo, (sb, so, tk, lk, ()), len, ⟨b, off, n, c, z, m, cap, ez, f⟩, pl, op, wg, ms, (0, 0), ()) ⟨rb, ro, rn, rc, rz, rf⟩ (x4, (0, 0))) : feed_Q8 x4 rb ro rn rc rz rf fb fo sb so len tk lk b off n c z m cap ez f pl op wg ms gv := by
  have hE : (0 : Int) = feedE ⟨rb, ro, rn, rc, rz, rf⟩ := by unfold feedE; rw [hs]; rfl
  refine ⟨(x4, clV (x4.2.2.2.1, 0)), ?_⟩
  have hg : SVeq (.fn (.func 38) [] [.ptr 900001 x4.2.2.2.1 0 [.elt 0 1]]) (.val (clV (x4.2.2.2.1, 0))) := ⟨rfl, rfl, rfl, fun _ => trivial⟩
  dsimp only
  repeat' (first | exact rfl | exact trivial | exact Nat.le_refl _ | assumption | exact svr _ | apply And.intro | (intro i hi; exact ⟨i, hi, rfl, rfl, fun _ _ => rfl⟩) | intro _)
theorem feed_Q4_ok {x4 : LX} {y1 : FD × Bool} (k1 : y1.1.1 = fb) (k2 : y1.1.2.1 = fo) (k3 : y1.1.sb = sb) (k4 : y1.1.so = so) (k5 : y1.1.len = len) (k6 : y1.1.gv = (x4.2.2.2.1, 0)) (hm : y1.1.l.m ≤ y1.1.l.cap) (hc : x4.2.1 ≤ x4.2.2.1.2.2)
    (hL : feedL (fb, fo, (sb, so, tk, lk, ()), len, ⟨b, off, n, c, z, m, cap, ez, f⟩, pl, op, wg, ms, (0, 0), ()) ⟨rb, ro, rn, rc, rz, rf⟩ (y1.1.fy, x4.2)) (hme : 2 * y1.1.l.n + (if y1.1.lk = true then 1 else 0) < 2 * x4.1.2.2.1.n + if x4.1.2.1 = true then 1 else 0) : feed_Q4 x4 len y1 fb fo sb so tk lk b off n c z m cap ez f pl op wg ms gv rb ro rn rc rz rf := by
  refine ⟨(y1.1.fy, x4.2), ?_⟩
  have hg : SVeq (.fn (.func 38) [] [.ptr 900001 y1.1.gv.1 y1.1.gv.2 [.elt 0 1]]) (.fn (.func 38) [] [.ptr 900001 x4.2.2.2.1 0 [.elt 0 1]]) := by
    rw [k6]; exact svr _
  dsimp only
  repeat' (first | exact rfl | exact trivial | exact Nat.le_refl _ | assumption | exact svr _ | apply And.intro | (intro i hi; exact ⟨i, hi, rfl, rfl, fun _ _ => rfl⟩) | intro _)
theorem emit_bk {len k : Nat} {B : Nat → BD} {x : BD} : bkL len (emitB k B x) (k + 1) = bkL len B k ++ [⟨x.1, x.2.1, rowL x.2.2.2.2.2 len⟩] := by
  rw [bkL, bkL_congr (B := emitB k B x) (B' := B) fun i hi => if_pos hi]
  have : emitB k B x k = x := if_neg (Nat.lt_irrefl k)
  rw [this]
theorem feed_Q6_ok {x4 : LX} {b8 b9 b10 : Nat} {y1 : FD × Bool} {y2 : Nat × Nat × Nat} {x2 : RowD Int × Unit} {x3 : FD × Int × Unit} {L : Nat} (hL : len.toNat = L)
    (hx3 : x3 = ((fb, fo, y1.1.2.2.1, y1.1.2.2.2.1, y1.1.2.2.2.2.1, y1.1.2.2.2.2.2.1, false, y1.1.2.2.2.2.2.2.2), ((32 + L : Nat) : Int), ())) (n2 : x2.1.n = L) (f2 : ∀ j, j < L → x2.1.f j = y1.1.l.f (32 + j))
    (k3 : y1.1.sb = sb) (k4 : y1.1.so = so) (k5 : y1.1.len = len) (k6 : y1.1.gv = (x4.2.2.2.1, 0)) (hm : y1.1.l.m ≤ y1.1.l.cap) (hb : x4.2.1 + 1 ≤ b10) (hz : (Nat.beq x4.2.1 0 && decide (1 = 0)) = Nat.beq (x4.2.1 + 1) 0)
    (hF : feedL (fb, fo, (sb, so, tk, lk, ()), len, ⟨b, off, n, c, z, m, cap, ez, f⟩, pl, op, wg, ms, (0, 0), ()) ⟨rb, ro, rn, rc, rz, rf⟩ ((y1.1.tk, y1.1.lk, FD.cut y1.1.l (32 + L), y1.1.pl + ((32 + L : Nat) : Int), false, y1.1.wg, y1.1.ms), x4.2.1 + 1, (b8, b9, b10), x4.2.2.2.1, emitB x4.2.1 x4.2.2.2.2 (y1.1.pl, y1.1.wg, y2.1, y2.2.1, y2.2.2, fun j => y1.1.l.f (32 + j))))
    (hme : 2 * (y1.1.l.n - (32 + L)) + (if y1.1.lk = true then 1 else 0) < 2 * x4.1.2.2.1.n + if x4.1.2.1 = true then 1 else 0) : feed_Q6 x4 b8 b9 b10 y1 len y2 x2 x3 fb fo sb so tk lk b off n c z m cap ez f pl op wg ms gv rb ro rn rc rz rf := by
  subst hx3
  refine ⟨((y1.1.tk, y1.1.lk, FD.cut y1.1.l (32 + L), y1.1.pl + ((32 + L : Nat) : Int), false, y1.1.wg, y1.1.ms), x4.2.1 + 1, (b8, b9, b10), x4.2.2.2.1, emitB x4.2.1 x4.2.2.2.2 (y1.1.pl, y1.1.wg, y2.1, y2.2.1, y2.2.2, fun j => y1.1.l.f (32 + j))), ?_⟩
  have hg : SVeq (.fn (.func 38) [] [.ptr 900001 y1.1.gv.1 y1.1.gv.2 [.elt 0 1]]) (.fn (.func 38) [] [.ptr 900001 x4.2.2.2.1 0 [.elt 0 1]]) := by
    rw [k6]; exact svr _
  have e1 : ∀ i, (if i < x4.2.1 then (x4.2.2.2.2 i).1 else y1.1.pl) = (emitB x4.2.1 x4.2.2.2.2 (y1.1.pl, y1.1.wg, y2.1, y2.2.1, y2.2.2, fun j => y1.1.l.f (32 + j)) i).1 := fun i => by unfold emitB; split <;> rfl
  have e2 : ∀ i, (if i < x4.2.1 then (x4.2.2.2.2 i).2.1 else y1.1.wg) = (emitB x4.2.1 x4.2.2.2.2 (y1.1.pl, y1.1.wg, y2.1, y2.2.1, y2.2.2, fun j => y1.1.l.f (32 + j)) i).2.1 := fun i => by unfold emitB; split <;> rfl
  have e3 : ∀ i, i < x4.2.1 + 1 → eqv3 (if i < x4.2.1 then .slice 801 (x4.2.2.2.2 i).2.2.1 (x4.2.2.2.2 i).2.2.2.1 [.elt i 0] 1 0 len.toNat (x4.2.2.2.2 i).2.2.2.2.1 false else .slice 100 y2.1 y2.2.1 [] 1 0 x2.1.n y2.2.2 false)
      (.slice 801 (emitB x4.2.1 x4.2.2.2.2 (y1.1.pl, y1.1.wg, y2.1, y2.2.1, y2.2.2, fun j => y1.1.l.f (32 + j)) i).2.2.1 (emitB x4.2.1 x4.2.2.2.2 (y1.1.pl, y1.1.wg, y2.1, y2.2.1, y2.2.2, fun j => y1.1.l.f (32 + j)) i).2.2.2.1 [.elt i 0] 1 0 len.toNat (emitB x4.2.1 x4.2.2.2.2 (y1.1.pl, y1.1.wg, y2.1, y2.2.1, y2.2.2, fun j => y1.1.l.f (32 + j)) i).2.2.2.2.1 false) := fun i hi => by
    unfold emitB
    by_cases q : i < x4.2.1
    · rw [if_pos q, if_pos q]
      exact ⟨rfl, rfl, rfl, rfl, rfl, rfl⟩
    · rw [if_neg q, if_neg q]
      show SVeq (.slice 100 y2.1 y2.2.1 [] 1 0 x2.1.n y2.2.2 false) (.slice 801 y2.1 y2.2.1 [.elt i 0] 1 0 len.toNat y2.2.2 false)
      refine ⟨?_, ?_, rfl, fun h => ?_⟩
      · simp [SV.den, pathOff, PS.off, n2, hL]
      · simp [SV.flat, pathOff, PS.off, n2, hL]
      · exact ⟨fun q => (by cases q), by have := h.2.1; rw [n2] at this; rw [hL]; exact this, h.2.2⟩
  have e4 : ∀ i, i < x4.2.1 + 1 → (∃ j : Nat, j < x4.2.1 ∧ ((x4.2.2.2.2 j).2.2.1, (x4.2.2.2.2 j).2.2.2.1) = ((emitB x4.2.1 x4.2.2.2.2 (y1.1.pl, y1.1.wg, y2.1, y2.2.1, y2.2.2, fun j => y1.1.l.f (32 + j)) i).2.2.1, (emitB x4.2.1 x4.2.2.2.2 (y1.1.pl, y1.1.wg, y2.1, y2.2.1, y2.2.2, fun j => y1.1.l.f (32 + j)) i).2.2.2.1) ∧ len.toNat = len.toNat ∧ ∀ k, k < len.toNat → (x4.2.2.2.2 j).2.2.2.2.2 k = (emitB x4.2.1 x4.2.2.2.2 (y1.1.pl, y1.1.wg, y2.1, y2.2.1, y2.2.2, fun j => y1.1.l.f (32 + j)) i).2.2.2.2.2 k) ∨
      (false = false ∧ (y2.1, y2.2.1) = ((emitB x4.2.1 x4.2.2.2.2 (y1.1.pl, y1.1.wg, y2.1, y2.2.1, y2.2.2, fun j => y1.1.l.f (32 + j)) i).2.2.1, (emitB x4.2.1 x4.2.2.2.2 (y1.1.pl, y1.1.wg, y2.1, y2.2.1, y2.2.2, fun j => y1.1.l.f (32 + j)) i).2.2.2.1) ∧ x2.1.n = len.toNat ∧ ∀ k, k < x2.1.n → x2.1.f k = (emitB x4.2.1 x4.2.2.2.2 (y1.1.pl, y1.1.wg, y2.1, y2.2.1, y2.2.2, fun j => y1.1.l.f (32 + j)) i).2.2.2.2.2 k) := fun i hi => by
    by_cases q : i < x4.2.1
    · have : emitB x4.2.1 x4.2.2.2.2 (y1.1.pl, y1.1.wg, y2.1, y2.2.1, y2.2.2, fun j => y1.1.l.f (32 + j)) i = x4.2.2.2.2 i := if_pos q
      rw [this]
      exact .inl ⟨i, q, rfl, rfl, fun _ _ => rfl⟩
    · have : emitB x4.2.1 x4.2.2.2.2 (y1.1.pl, y1.1.wg, y2.1, y2.2.1, y2.2.2, fun j => y1.1.l.f (32 + j)) i = (y1.1.pl, y1.1.wg, y2.1, y2.2.1, y2.2.2, fun j => y1.1.l.f (32 + j)) := if_neg q
      rw [this]
      exact .inr ⟨rfl, rfl, n2.trans hL.symm, fun k hk => f2 k (by rw [← n2]; exact hk)⟩
  dsimp only
  repeat' (first | exact rfl | exact trivial | exact Nat.le_refl _ | assumption | exact svr _ | apply And.intro | exact e4 | (intro i hi; exact ⟨e1 i, e2 i, e3 i hi⟩) | intro _)
theorem feed_Q9_ok {x4 : LX} {b8 b9 b10 : Nat} {y2 : Nat × Nat × Nat} {x2 : RowD Int × Unit} {x3 : FD × Int × Unit} {L : Nat} (hL : len.toNat = L)
    (hx3 : x3 = ((fb, fo, (sb, so, x4.1.1, x4.1.2.1, ()), len, x4.1.2.2.1, x4.1.2.2.2.1, false, x4.1.2.2.2.2.2.1, x4.1.2.2.2.2.2.2, (x4.2.2.2.1, 0), ()), ((32 + L : Nat) : Int), ())) (n2 : x2.1.n = L) (f2 : ∀ j, j < L → x2.1.f j = x4.1.2.2.1.f (32 + j))
    (hm : x4.1.2.2.1.m ≤ x4.1.2.2.1.cap) (hb : x4.2.1 + 1 ≤ b10) (hz : (Nat.beq x4.2.1 0 && decide (1 = 0)) = Nat.beq (x4.2.1 + 1) 0)
    (hF : feedL (fb, fo, (sb, so, tk, lk, ()), len, ⟨b, off, n, c, z, m, cap, ez, f⟩, pl, op, wg, ms, (0, 0), ()) ⟨rb, ro, rn, rc, rz, rf⟩ ((x4.1.1, x4.1.2.1, FD.cut x4.1.2.2.1 (32 + L), x4.1.2.2.2.1 + ((32 + L : Nat) : Int), false, x4.1.2.2.2.2.2.1, x4.1.2.2.2.2.2.2), x4.2.1 + 1, (b8, b9, b10), x4.2.2.2.1, emitB x4.2.1 x4.2.2.2.2 (x4.1.2.2.2.1, x4.1.2.2.2.2.2.1, y2.1, y2.2.1, y2.2.2, fun j => x4.1.2.2.1.f (32 + j))))
    (hme : 2 * (x4.1.2.2.1.n - (32 + L)) + (if x4.1.2.1 = true then 1 else 0) < 2 * x4.1.2.2.1.n + if x4.1.2.1 = true then 1 else 0) : feed_Q9 x4 b8 b9 b10 len y2 x2 x3 fb fo sb so tk lk b off n c z m cap ez f pl op wg ms gv rb ro rn rc rz rf := by
  subst hx3
  refine ⟨((x4.1.1, x4.1.2.1, FD.cut x4.1.2.2.1 (32 + L), x4.1.2.2.2.1 + ((32 + L : Nat) : Int), false, x4.1.2.2.2.2.2.1, x4.1.2.2.2.2.2.2), x4.2.1 + 1, (b8, b9, b10), x4.2.2.2.1, emitB x4.2.1 x4.2.2.2.2 (x4.1.2.2.2.1, x4.1.2.2.2.2.2.1, y2.1, y2.2.1, y2.2.2, fun j => x4.1.2.2.1.f (32 + j))), ?_⟩
  have e1 : ∀ i, (if i < x4.2.1 then (x4.2.2.2.2 i).1 else x4.1.2.2.2.1) = (emitB x4.2.1 x4.2.2.2.2 (x4.1.2.2.2.1, x4.1.2.2.2.2.2.1, y2.1, y2.2.1, y2.2.2, fun j => x4.1.2.2.1.f (32 + j)) i).1 := fun i => by unfold emitB; split <;> rfl
  have e2 : ∀ i, (if i < x4.2.1 then (x4.2.2.2.2 i).2.1 else x4.1.2.2.2.2.2.1) = (emitB x4.2.1 x4.2.2.2.2 (x4.1.2.2.2.1, x4.1.2.2.2.2.2.1, y2.1, y2.2.1, y2.2.2, fun j => x4.1.2.2.1.f (32 + j)) i).2.1 := fun i => by unfold emitB; split <;> rfl
  have e3 : ∀ i, i < x4.2.1 + 1 → eqv3 (if i < x4.2.1 then .slice 801 (x4.2.2.2.2 i).2.2.1 (x4.2.2.2.2 i).2.2.2.1 [.elt i 0] 1 0 len.toNat (x4.2.2.2.2 i).2.2.2.2.1 false else .slice 100 y2.1 y2.2.1 [] 1 0 x2.1.n y2.2.2 false)
      (.slice 801 (emitB x4.2.1 x4.2.2.2.2 (x4.1.2.2.2.1, x4.1.2.2.2.2.2.1, y2.1, y2.2.1, y2.2.2, fun j => x4.1.2.2.1.f (32 + j)) i).2.2.1 (emitB x4.2.1 x4.2.2.2.2 (x4.1.2.2.2.1, x4.1.2.2.2.2.2.1, y2.1, y2.2.1, y2.2.2, fun j => x4.1.2.2.1.f (32 + j)) i).2.2.2.1 [.elt i 0] 1 0 len.toNat (emitB x4.2.1 x4.2.2.2.2 (x4.1.2.2.2.1, x4.1.2.2.2.2.2.1, y2.1, y2.2.1, y2.2.2, fun j => x4.1.2.2.1.f (32 + j)) i).2.2.2.2.1 false) := fun i hi => by
    unfold emitB
    by_cases q : i < x4.2.1
    · rw [if_pos q, if_pos q]
      exact ⟨rfl, rfl, rfl, rfl, rfl, rfl⟩
    · rw [if_neg q, if_neg q]
      show SVeq (.slice 100 y2.1 y2.2.1 [] 1 0 x2.1.n y2.2.2 false) (.slice 801 y2.1 y2.2.1 [.elt i 0] 1 0 len.toNat y2.2.2 false)
      refine ⟨?_, ?_, rfl, fun h => ?_⟩
      · simp [SV.den, pathOff, PS.off, n2, hL]
      · simp [SV.flat, pathOff, PS.off, n2, hL]
      · exact ⟨fun q => (by cases q), by have := h.2.1; rw [n2] at this; rw [hL]; exact this, h.2.2⟩
  have e4 : ∀ i, i < x4.2.1 + 1 → (∃ j : Nat, j < x4.2.1 ∧ ((x4.2.2.2.2 j).2.2.1, (x4.2.2.2.2 j).2.2.2.1) = ((emitB x4.2.1 x4.2.2.2.2 (x4.1.2.2.2.1, x4.1.2.2.2.2.2.1, y2.1, y2.2.1, y2.2.2, fun j => x4.1.2.2.1.f (32 + j)) i).2.2.1, (emitB x4.2.1 x4.2.2.2.2 (x4.1.2.2.2.1, x4.1.2.2.2.2.2.1, y2.1, y2.2.1, y2.2.2, fun j => x4.1.2.2.1.f (32 + j)) i).2.2.2.1) ∧ len.toNat = len.toNat ∧ ∀ k, k < len.toNat → (x4.2.2.2.2 j).2.2.2.2.2 k = (emitB x4.2.1 x4.2.2.2.2 (x4.1.2.2.2.1, x4.1.2.2.2.2.2.1, y2.1, y2.2.1, y2.2.2, fun j => x4.1.2.2.1.f (32 + j)) i).2.2.2.2.2 k) ∨
      (false = false ∧ (y2.1, y2.2.1) = ((emitB x4.2.1 x4.2.2.2.2 (x4.1.2.2.2.1, x4.1.2.2.2.2.2.1, y2.1, y2.2.1, y2.2.2, fun j => x4.1.2.2.1.f (32 + j)) i).2.2.1, (emitB x4.2.1 x4.2.2.2.2 (x4.1.2.2.2.1, x4.1.2.2.2.2.2.1, y2.1, y2.2.1, y2.2.2, fun j => x4.1.2.2.1.f (32 + j)) i).2.2.2.1) ∧ x2.1.n = len.toNat ∧ ∀ k, k < x2.1.n → x2.1.f k = (emitB x4.2.1 x4.2.2.2.2 (x4.1.2.2.2.1, x4.1.2.2.2.2.2.1, y2.1, y2.2.1, y2.2.2, fun j => x4.1.2.2.1.f (32 + j)) i).2.2.2.2.2 k) := fun i hi => by
    by_cases q : i < x4.2.1
    · have : emitB x4.2.1 x4.2.2.2.2 (x4.1.2.2.2.1, x4.1.2.2.2.2.2.1, y2.1, y2.2.1, y2.2.2, fun j => x4.1.2.2.1.f (32 + j)) i = x4.2.2.2.2 i := if_pos q
      rw [this]
      exact .inl ⟨i, q, rfl, rfl, fun _ _ => rfl⟩
    · have : emitB x4.2.1 x4.2.2.2.2 (x4.1.2.2.2.1, x4.1.2.2.2.2.2.1, y2.1, y2.2.1, y2.2.2, fun j => x4.1.2.2.1.f (32 + j)) i = (x4.1.2.2.2.1, x4.1.2.2.2.2.2.1, y2.1, y2.2.1, y2.2.2, fun j => x4.1.2.2.1.f (32 + j)) := if_neg q
      rw [this]
      exact .inr ⟨rfl, rfl, n2.trans hL.symm, fun k hk => f2 k (by rw [← n2]; exact hk)⟩
  dsimp only
  repeat' (first | exact rfl | exact trivial | exact Nat.le_refl _ | assumption | exact svr _ | apply And.intro | exact e4 | (intro i hi; exact ⟨e1 i, e2 i, e3 i hi⟩) | intro _)
end
theorem exam_ok {d : FD} {y : FD × Bool} {e : Int} (h : feedInv d e) (ho : d.op = false) (hx : exam d y) : feedInv y.1 e ∧ (y.1.op = false → y.2 = true → d.lk = true ∧ y.1.lk = false ∧ y.1.l.n = d.l.n) := by
  obtain ⟨⟨⟨a1, a2, a3, a4⟩, a5, a6, a7, a8, a9⟩, p2, p3, p4⟩ := h
  obtain ⟨k, h1, h2⟩ := hx
  have hk : k ≤ d.l.n := by
    by_cases hl : d.lk = true
    · rw [if_pos hl] at h1; omega
    · rw [if_neg hl] at h1; exact h1.2.2
  have hadv : feedInv (d.adv k) e := by
    refine ⟨⟨⟨?_, a2, ?_, a4⟩, a5, ?_, ?_, a8, a9⟩, fun q => ?_, p3, ?_⟩
    · show d.l.n - k ≤ d.l.m; omega
    · show d.l.n - k ≤ d.l.c; omega
    · show 0 ≤ d.pl + (k : Int); omega
    · show d.pl + (k : Int) + ((d.l.n - k : Nat) : Int) ≤ _; omega
    · have := p2 q; show d.l.n - k = 0; omega
    · show d.pl + (k : Int) + ((d.l.n - k : Nat) : Int) = _; omega
  by_cases hn : (d.adv k).l.n < 32
  · rw [if_pos hn] at h2
    subst h2
    exact ⟨hadv, fun _ q => by cases q⟩
  · rw [if_neg hn] at h2
    subst h2
    obtain ⟨⟨b1, b5, b6, b7, b8, b9⟩, q2, q3, q4⟩ := hadv
    by_cases c1 : wrA (d.adv k).l.f 0 ≤ 2
    · rw [look1 c1]
      exact ⟨⟨⟨b1, b5, b6, b7, (by show (0 : Int) ≤ 0; omega), (by show (0 : Int) ≤ 3; omega)⟩, q2, .inl (by show (0 : Int) < 3; omega), q4⟩, fun q => by cases q⟩
    · have hl : d.lk = true := by
        cases hl : d.lk with
        | true => rfl
        | false =>
          rw [if_neg (by rw [hl]; decide)] at h1
          have hn' : ¬ d.l.n - k < 32 := hn
          have h3 := h1.2.1.resolve_left (by omega)
          have : wrA (d.adv k).l.f 0 = wrA d.l.f k := wr_congr fun i hi => by
            show (if 0 + i < d.l.n - k then d.l.f (0 + i + k) else _) = _
            rw [if_pos (by omega), Nat.zero_add, Nat.add_comm]
          rw [this] at c1
          exact absurd h3 c1
      have hms : d.ms < 3 := p3.resolve_right (by rw [hl]; decide)
      rw [if_pos hl] at h1
      subst h1
      by_cases c2 : (d.adv 0).ms + 1 = 3
      · have c2' : d.ms + 1 = 3 := c2
        rw [look2 c1 c2]
        exact ⟨⟨⟨b1, b5, b6, b7, (by show 0 ≤ d.ms + 1; omega), (by show d.ms + 1 ≤ 3; omega)⟩, q2, .inr rfl, q4⟩, fun _ _ => ⟨hl, rfl, rfl⟩⟩
      · have c2' : ¬ d.ms + 1 = 3 := c2
        rw [look3 c1 c2]
        exact ⟨⟨⟨b1, b5, b6, b7, (by show 0 ≤ d.ms + 1; omega), (by show d.ms + 1 ≤ 3; omega)⟩, q2, .inl (by show d.ms + 1 < 3; omega), q4⟩, fun q => by cases q⟩
theorem feedL_emit {d : FD} {r : RowD Int} {y : LX} {e : FD} {L : Nat} {A : Nat × Nat × Nat} {x : BD} (hL : d.len.toNat = L) (h1 : 1 ≤ L) (hy : feedL d r y) (hst : Steps L (d.upd y.1 (y.2.2.2.1, 0)).abs [] e.abs) (ho : e.op = true) (hI : feedInv e (d.pl + d.l.n + r.n)) (hn : 32 + L ≤ e.l.n) (htk : e.tk = y.1.1) (hge : y.1.2.2.2.1 ≤ e.pl)
    (hx : x.1 = e.pl ∧ x.2.1 = e.wg ∧ ∀ j, j < L → x.2.2.2.2.2 j = e.l.f (32 + j)) (hA : y.2.1 + 1 ≤ A.2.2) : feedL d r ((e.tk, e.lk, FD.cut e.l (32 + L), e.pl + ((32 + L : Nat) : Int), false, e.wg, e.ms), y.2.1 + 1, A, y.2.2.2.1, emitB y.2.1 y.2.2.2.2 x) := by
  obtain ⟨y1, y2, y3, y4, y5, y6⟩ := hy
  obtain ⟨⟨⟨a1, a2, a3, a4⟩, a5, a6, a7, a8, a9⟩, p2, p3, p4⟩ := hI
  rw [hL] at y1
  refine ⟨?_, ⟨⟨⟨?_, a2, ?_, a4⟩, a5, ?_, ?_, a8, a9⟩, fun q => ?_, p3, ?_⟩, by rw [← y3]; exact htk, hA, ?_, fun q => by cases q⟩
  · rw [hL]
    show Steps L _ (bkL L (emitB y.2.1 y.2.2.2.2 x) (y.2.1 + 1)) _
    rw [emit_bk]
    have hs := y1.trans hst
    rw [List.append_nil] at hs
    refine hs.trans (Steps.one ?_)
    unfold mstp FD.abs
    dsimp only
    rw [if_pos ho, if_pos (by rw [rowL_len]; exact hn), if_pos ho]
    show some (St.mk _ _ _ _ _ _, _) = some (St.mk (rowL (FD.cut e.l (32 + L)).f (e.l.n - (32 + L))) (e.pl + ((32 + L : Nat) : Int)) false 0 e.ms e.lk, _)
    have ht : ((rowL e.l.f e.l.n).drop 32).take L = rowL (fun j => e.l.f (32 + j)) L := by
      rw [rowL_drop, rowL_take _ _ _ (by omega)]
    rw [cut_rowL, hx.1, hx.2.1, rowL_congr hx.2.2, ht]
  · show e.l.n - (32 + L) ≤ e.l.m; omega
  · show e.l.n - (32 + L) ≤ e.l.c; omega
  · show 0 ≤ e.pl + ((32 + L : Nat) : Int); omega
  · show e.pl + ((32 + L : Nat) : Int) + ((e.l.n - (32 + L) : Nat) : Int) ≤ _; omega
  · have := p2 q; show e.l.n - (32 + L) = 0; omega
  · show e.pl + ((32 + L : Nat) : Int) + ((e.l.n - (32 + L) : Nat) : Int) = _; omega
  · show d.pl + ((33 * (y.2.1 + 1) : Nat) : Int) ≤ e.pl + ((32 + L : Nat) : Int); omega
theorem feed_ok : EcOk Tryd.prog 22 feed := by
  refine ecC_run (fun _ => EF1_ok) Tryd.func22 rfl (by kernel_rfl) [(5, 801)]
    (fun x => [.join ⟨6, Nat, [6], fun y => [.ptr 900001 y 0 [.elt 0 1]], [], fun y => [⟨900001, y, 0, 1, 1, fun _ => nilSlice, true, true, 1, 40, false, none⟩], fun _ => True, fun _ => 0⟩ 100,
      .loop ⟨9, LX, [6], fun y => [.ptr 900001 y.2.2.2.1 0 [.elt 0 1]], [0, 1, 2, 900001], fun y => ⟨900001, y.2.2.2.1, 0, 1, 1, fun _ => bSlice 800 y.2.1 y.2.2.1, true, true, 1, 40, false, none⟩ :: bRow x.1.fd.len.toNat 800 801 y.2.1 y.2.2.1 y.2.2.2.2 :: bFam x.1.fd.len.toNat 801 y.2.1 y.2.2.2.2 :: Hp.owned (aF.hp 0 (x.1.fd.upd y.1 (y.2.2.2.1, 0), ())), feedL x.1.fd x.2.1, fun y => 2 * y.1.2.2.1.n + if y.1.2.1 = true then 1 else 0⟩,
      .draw 11 (.take 0 (.take 1 (.take 2 (.take 3 (.take 4 (.take 5 (.take 6 (.take 7 (.take 8 (.take 9 (.take 10 (.take 11 (.take 12 (.take 13 (.take 14 (.take 15 (.take 16 (.take 17 (.br 18 (.take 19 (.br 20 .fin .stop)) .stop))))))))))))))))))) [1000001, 100800]])
    (fun _ => Nat.le_of_ble_eq_true rfl) (fun ⟨⟨fb, fo, ⟨⟨sb, so, ⟨tk, lk, ()⟩⟩, len, ⟨b, off, n, c, z, m, cap, ez, f⟩, pl, op, wg, ms, gv, ()⟩⟩, ⟨rb, ro, rn, rc, rz, rf⟩, ()⟩ hp hw => ?_)
  refine vc_of (q :=
      (fb = fb ∧ fo = fo) ∧ (sb = sb ∧ so = so) ∧ ∀ (t1 : Bool), t1 = Bool.false → (t1 = Bool.true → Mk.feed_Q1 rb ro rn rc rz rf fb fo sb so len b off n c z pl op wg ms gv tk lk ez m cap f) ∧ (t1 = Bool.false → rn ≤ rn ∧ (∀ (k1 : Nat), k1 < rn → Bool.true = Bool.true) ∧ (rb = rb ∧ ro = ro) ∧ ∀ (t2 : Bool), t2 = !Mk.softB rf rn → (t2 = Bool.true → Mk.feed_Q2 rb ro rn rc rz rf fb fo sb so len b off n c z
      pl op wg ms gv tk lk ez m cap f) ∧ (t2 = Bool.false → (∀ (b1 : Nat), ∃ (x3 : Nat), ((0 : Nat) = (0 : Nat) ∧ b1 = x3 ∧ (0 : Nat) = (0 : Nat)) ∧ ((b1 = x3 ∧ (0 : Nat) = (0 : Nat) ∧ Bool.false = Bool.false ∧ (1 : Nat) ≤ (1 : Nat) ∧ (1 : Nat) ≤ (1 : Nat) ∧ (1 : Nat) ≤ (1 : Nat)) ∧ (0 : Nat) = (0 : Nat) ∧ (0 : Nat) = (0 : Nat) ∧ (0 : Nat) = (0 : Nat) ∧ (0 : Nat) = (0 : Nat) ∧ (0 : Nat) = (0 : Nat) ∧
      Bool.true = Bool.true) ∧ True) ∧ ∀ (b2 : Nat), True → (fb = fb ∧ fo = fo) ∧ (fb = fb ∧ fo = fo) ∧ (b = b ∧ off = off) ∧ (z = Bool.true → ez = Bool.true) ∧ (0 : Nat) = (0 : Nat) ∧ n ≤ m ∧ c ≤ cap ∧ (n + rn) * (8 : Nat) ≤ (140737488355328 : Nat) ∧ n + rn ≤ (9223372036854775807 : Nat) ∧ rn ≤ rn ∧ (rb = rb ∧ ro = ro) ∧ ∀ (b3 b4 b5 : Nat), n + rn ≤ b5 → b5 ≤ (9223372036854775807 : Nat) → (ez = Bool.true
      → rn = (0 : Nat) → b5 = (0 : Nat)) → (fb = fb ∧ fo = fo) ∧ (fb = fb ∧ fo = fo) ∧ (sb = sb ∧ so = so) ∧ ∀ (v1 : Int), v1 = (↑rn : Int) → ∀ (v2 : Int), v2 = Go.IntKind.wrap Go.IntKind.i64 (tk + v1) → (sb = sb ∧ so = so) ∧ Mk.feed_Q3 b2 fb fo sb so len b3 b4 n rn b5 z pl op wg ms v2 lk ez f rf tk b off c m cap gv ∧ ∀ (x4 : (Int × Bool × Eng.OwnD Int × Int × Bool × Int × Int) × Nat × (Nat × Nat × Nat)
      × Nat × (Nat → Int × Int × Nat × Nat × Nat × (Nat → Int))), Mk.feedL (Mk.FV.fd (fb, fo, (sb, so, tk, lk, ()), len, Eng.OwnD.mk b off n c z m cap ez f, pl, op, wg, ms, gv, ())) (Eng.RowD.mk rb ro rn rc rz rf) x4 → (fb = fb ∧ fo = fo) ∧ (Prod.fst (Prod.snd (Prod.snd (Prod.snd (Prod.snd (Prod.fst x4))))) = Bool.false → (fb = fb ∧ fo = fo) ∧ (sb = sb ∧ so = so) ∧ (Eng.OwnD.b (Prod.fst (Prod.snd
      (Prod.snd (Prod.fst x4)))) = Eng.OwnD.b (Prod.fst (Prod.snd (Prod.snd (Prod.fst x4)))) ∧ Eng.OwnD.off (Prod.fst (Prod.snd (Prod.snd (Prod.fst x4)))) = Eng.OwnD.off (Prod.fst (Prod.snd (Prod.snd (Prod.fst x4))))) ∧ ((0 : Nat) = (0 : Nat) ∧ ∀ (k2 : Nat), k2 < Eng.OwnD.m (Prod.fst (Prod.snd (Prod.snd (Prod.fst x4)))) → Bool.true = Bool.true) ∧ ∀ (x'1 : (Nat × Nat × (Nat × Nat × Int × Bool × Unit) ×
      Int × Eng.OwnD Int × Int × Bool × Int × Int × (Nat × Nat) × Unit) × Unit), x'1 = ((fb, fo, (sb, so, Prod.fst (Prod.fst x4), Prod.fst (Prod.snd (Prod.fst x4)), ()), len, Prod.fst (Prod.snd (Prod.snd (Prod.fst x4))), Prod.fst (Prod.snd (Prod.snd (Prod.snd (Prod.fst x4)))), Prod.fst (Prod.snd (Prod.snd (Prod.snd (Prod.snd (Prod.fst x4))))), Prod.fst (Prod.snd (Prod.snd (Prod.snd (Prod.snd (Prod.snd
      (Prod.fst x4)))))), Prod.snd (Prod.snd (Prod.snd (Prod.snd (Prod.snd (Prod.snd (Prod.fst x4)))))), (Prod.fst (Prod.snd (Prod.snd (Prod.snd x4))), (0 : Nat)), ()), ()) → Mk.FD.ok (Prod.fst x'1) ∧ (Prod.fst (Prod.snd (Prod.snd (Prod.snd (Prod.snd (Prod.snd (Prod.snd (Prod.snd (Prod.snd (Prod.fst x'1))))))))) < (3 : Int) ∨ Prod.fst (Prod.snd (Prod.snd (Prod.snd (Prod.fst (Prod.snd (Prod.snd (Prod.fst
      x'1))))))) = Bool.false) ∧ ∀ (y1 : (Nat × Nat × (Nat × Nat × Int × Bool × Unit) × Int × Eng.OwnD Int × Int × Bool × Int × Int × (Nat × Nat) × Unit) × Bool), Mk.exam (Prod.fst x'1) y1 → ∀ (t3 : Bool), t3 = Prod.snd y1 → ∀ (t4 : Bool), (t4 = if Prod.fst (Prod.snd (Prod.snd (Prod.snd (Prod.snd (Prod.fst x4))))) = Bool.true then Bool.true else t3) → (t4 = Bool.true → (Prod.fst (Prod.fst y1) = fb ∧
      Prod.fst (Prod.snd (Prod.fst y1)) = fo) ∧ ∀ (v3 : Int), v3 = Go.IntKind.wrap Go.IntKind.i64 ((32 : Int) + Prod.fst (Prod.snd (Prod.snd (Prod.snd (Prod.fst y1))))) → (Prod.fst (Prod.fst y1) = fb ∧ Prod.fst (Prod.snd (Prod.fst y1)) = fo) ∧ ((!Prod.fst (Prod.snd (Prod.snd (Prod.snd (Prod.snd (Prod.snd (Prod.snd (Prod.fst y1)))))))) = Bool.true → Mk.feed_Q4 x4 len y1 fb fo sb so tk lk b off n c z m cap
      ez f pl op wg ms gv rb ro rn rc rz rf) ∧ ((!Prod.fst (Prod.snd (Prod.snd (Prod.snd (Prod.snd (Prod.snd (Prod.snd (Prod.fst y1)))))))) = Bool.false → (Prod.fst (Prod.fst y1) = fb ∧ Prod.fst (Prod.snd (Prod.fst y1)) = fo) ∧ ∀ (v4 : Int), v4 = (↑(Eng.OwnD.n (Prod.fst (Prod.snd (Prod.snd (Prod.snd (Prod.snd (Prod.fst y1))))))) : Int) → (Decidable.decide (v4 < v3) = Bool.true → (Prod.fst (Prod.snd
      (Prod.snd (Prod.snd x4))) = Prod.fst (Prod.snd (Prod.snd (Prod.snd x4))) ∧ (0 : Nat) = (0 : Nat)) ∧ Mk.feed_Q5 x4 rb ro rn rc rz rf y1 fb fo sb so len tk lk b off n c z m cap ez f pl op wg ms gv) ∧ (Decidable.decide (v4 < v3) = Bool.false → (Prod.fst (Prod.fst y1) = fb ∧ Prod.fst (Prod.snd (Prod.fst y1)) = fo) ∧ (Prod.fst (Prod.fst y1) = fb ∧ Prod.fst (Prod.snd (Prod.fst y1)) = fo) ∧ (Prod.fst
      (Prod.fst y1) = fb ∧ Prod.fst (Prod.snd (Prod.fst y1)) = fo) ∧ (Prod.fst (Prod.fst y1) = fb ∧ Prod.fst (Prod.snd (Prod.fst y1)) = fo) ∧ (0 : Int) ≤ v3 ∧ v3 ≤ (↑(Eng.OwnD.c (Prod.fst (Prod.snd (Prod.snd (Prod.snd (Prod.snd (Prod.fst y1))))))) : Int) ∧ (0 : Int) ≤ (32 : Int) ∧ (32 : Int) ≤ v3 ∧
      ((match if Eng.OwnD.c (Prod.fst (Prod.snd (Prod.snd (Prod.snd (Prod.snd (Prod.fst y1)))))) = Int.toNat (32 : Int) then (0 : Nat) else (32 : Nat) with | (0 : Nat) => Int.toNat v3 - Int.toNat (32 : Int) | Nat.succ i => i + (1 : Nat) + (Int.toNat v3 - Int.toNat (32 : Int))) ≤ Eng.OwnD.m (Prod.fst (Prod.snd (Prod.snd (Prod.snd (Prod.snd (Prod.fst y1)))))) ∧ (∀ (k3 : Nat), k3 < Int.toNat v3 - Int.toNat
      (32 : Int) → Bool.true = Bool.true) ∧ (Eng.OwnD.b (Prod.fst (Prod.snd (Prod.snd (Prod.snd (Prod.snd (Prod.fst y1)))))) = Eng.OwnD.b (Prod.fst (Prod.snd (Prod.snd (Prod.snd (Prod.snd (Prod.fst y1)))))) ∧ Eng.OwnD.off (Prod.fst (Prod.snd (Prod.snd (Prod.snd (Prod.snd (Prod.fst y1)))))) = Eng.OwnD.off (Prod.fst (Prod.snd (Prod.snd (Prod.snd (Prod.snd (Prod.fst y1))))))) ∧ ∀ (x'2 : Eng.RowD Int ×
      Unit), x'2 = (Eng.RowD.mk (Eng.OwnD.b (Prod.fst (Prod.snd (Prod.snd (Prod.snd (Prod.snd (Prod.fst y1))))))) (Eng.OwnD.off (Prod.fst (Prod.snd (Prod.snd (Prod.snd (Prod.snd (Prod.fst y1)))))) + ((0 : Nat) + (if Eng.OwnD.c (Prod.fst (Prod.snd (Prod.snd (Prod.snd (Prod.snd (Prod.fst y1)))))) = Int.toNat (32 : Int) then (0 : Nat) else (32 : Nat)) * (1 : Nat))) (Int.toNat v3 - Int.toNat (32 : Int))
      (Eng.OwnD.c (Prod.fst (Prod.snd (Prod.snd (Prod.snd (Prod.snd (Prod.fst y1)))))) - Int.toNat (32 : Int)) (Eng.OwnD.z (Prod.fst (Prod.snd (Prod.snd (Prod.snd (Prod.snd (Prod.fst y1))))))) fun (k : Nat) ↦ Eng.OwnD.f (Prod.fst (Prod.snd (Prod.snd (Prod.snd (Prod.snd (Prod.fst y1))))))
      (match if Eng.OwnD.c (Prod.fst (Prod.snd (Prod.snd (Prod.snd (Prod.snd (Prod.fst y1)))))) = Int.toNat (32 : Int) then (0 : Nat) else (32 : Nat) with | (0 : Nat) => k | Nat.succ i => i + (1 : Nat) + k), ()) → Eng.RowD.z (Prod.fst x'2) = Bool.false ∧ Eng.RowD.n (Prod.fst x'2) * (8 : Nat) ≤ (140737488355328 : Nat) ∧ ∀ (y2 : Nat × Nat × Nat), Eng.RowD.n (Prod.fst x'2) ≤ Prod.snd (Prod.snd y2) ∧
      Prod.snd (Prod.snd y2) ≤ (9223372036854775807 : Nat) → (∀ (b6 : Nat), (Prod.fst (Prod.snd (Prod.snd (Prod.snd x4))) = Prod.fst (Prod.fst (Prod.snd (Prod.snd (Prod.snd (Prod.snd (Prod.snd (Prod.snd (Prod.snd (Prod.snd (Prod.snd (Prod.fst y1))))))))))) ∧ (0 : Nat) = Prod.snd (Prod.fst (Prod.snd (Prod.snd (Prod.snd (Prod.snd (Prod.snd (Prod.snd (Prod.snd (Prod.snd (Prod.snd (Prod.fst y1)))))))))))) ∧
      (b6 = b6 ∧ (0 : Nat) = (0 : Nat)) ∧ ∀ (b7 : Nat), (Prod.fst (Prod.fst (Prod.snd (Prod.snd x4))) = Prod.fst (Prod.fst (Prod.snd (Prod.snd x4))) ∧ Prod.fst (Prod.snd (Prod.fst (Prod.snd (Prod.snd x4)))) = Prod.fst (Prod.snd (Prod.fst (Prod.snd (Prod.snd x4))))) ∧ (Nat.beq (Prod.fst (Prod.snd x4)) (0 : Nat) = Bool.true → Nat.beq (Prod.fst (Prod.snd x4)) (0 : Nat) = Bool.true) ∧ (0 : Nat) = (0 : Nat) ∧
      Prod.fst (Prod.snd x4) ≤ Prod.fst (Prod.snd x4) ∧ Prod.snd (Prod.snd (Prod.fst (Prod.snd (Prod.snd x4)))) ≤ Prod.snd (Prod.snd (Prod.fst (Prod.snd (Prod.snd x4)))) ∧ (Prod.fst (Prod.snd x4) + (1 : Nat)) * (40 : Nat) ≤ (140737488355328 : Nat) ∧ Prod.fst (Prod.snd x4) + (1 : Nat) ≤ (9223372036854775807 : Nat) ∧ (1 : Nat) ≤ (1 : Nat) ∧ (b7 = b7 ∧ (0 : Nat) = (0 : Nat)) ∧ ∀ (b8 b9 b10 : Nat), Prod.fst
      (Prod.snd x4) + (1 : Nat) ≤ b10 → b10 ≤ (9223372036854775807 : Nat) → (Nat.beq (Prod.fst (Prod.snd x4)) (0 : Nat) = Bool.true → (1 : Nat) = (0 : Nat) → b10 = (0 : Nat)) → (Prod.fst (Prod.snd (Prod.snd (Prod.snd x4))) = Prod.fst (Prod.fst (Prod.snd (Prod.snd (Prod.snd (Prod.snd (Prod.snd (Prod.snd (Prod.snd (Prod.snd (Prod.snd (Prod.fst y1))))))))))) ∧ (0 : Nat) = Prod.snd (Prod.fst (Prod.snd
      (Prod.snd (Prod.snd (Prod.snd (Prod.snd (Prod.snd (Prod.snd (Prod.snd (Prod.snd (Prod.fst y1)))))))))))) ∧ (Prod.fst (Prod.fst y1) = fb ∧ Prod.fst (Prod.snd (Prod.fst y1)) = fo) ∧ (Prod.fst (Prod.fst y1) = fb ∧ Prod.fst (Prod.snd (Prod.fst y1)) = fo) ∧ (Prod.fst (Prod.fst (Prod.snd (Prod.snd (Prod.fst y1)))) = Prod.fst (Prod.fst (Prod.snd (Prod.snd (Prod.fst y1)))) ∧ Prod.fst (Prod.snd (Prod.fst
      (Prod.snd (Prod.snd (Prod.fst y1))))) = Prod.fst (Prod.snd (Prod.fst (Prod.snd (Prod.snd (Prod.fst y1)))))) ∧ (Eng.OwnD.b (Prod.fst (Prod.snd (Prod.snd (Prod.snd (Prod.snd (Prod.fst y1)))))) = Eng.OwnD.b (Prod.fst (Prod.snd (Prod.snd (Prod.snd (Prod.snd (Prod.fst y1)))))) ∧ Eng.OwnD.off (Prod.fst (Prod.snd (Prod.snd (Prod.snd (Prod.snd (Prod.fst y1)))))) = Eng.OwnD.off (Prod.fst (Prod.snd (Prod.snd
      (Prod.snd (Prod.snd (Prod.fst y1))))))) ∧ ((0 : Nat) = (0 : Nat) ∧ ∀ (k4 : Nat), k4 < Eng.OwnD.m (Prod.fst (Prod.snd (Prod.snd (Prod.snd (Prod.snd (Prod.fst y1)))))) → Bool.true = Bool.true) ∧ ∀ (x'3 : (Nat × Nat × (Nat × Nat × Int × Bool × Unit) × Int × Eng.OwnD Int × Int × Bool × Int × Int × (Nat × Nat) × Unit) × Int × Unit), x'3 = ((fb, fo, Prod.fst (Prod.snd (Prod.snd (Prod.fst y1))), Prod.fst
      (Prod.snd (Prod.snd (Prod.snd (Prod.fst y1)))), Prod.fst (Prod.snd (Prod.snd (Prod.snd (Prod.snd (Prod.fst y1))))), Prod.fst (Prod.snd (Prod.snd (Prod.snd (Prod.snd (Prod.snd (Prod.fst y1)))))), Bool.false, Prod.snd (Prod.snd (Prod.snd (Prod.snd (Prod.snd (Prod.snd (Prod.snd (Prod.fst y1)))))))), v3, ()) → ((0 : Int) ≤ Prod.fst (Prod.snd x'3) ∧ Prod.fst (Prod.snd x'3) ≤ (↑(Eng.OwnD.n (Prod.fst
      (Prod.snd (Prod.snd (Prod.snd (Prod.snd (Prod.fst x'3))))))) : Int)) ∧ Mk.FD.ok (Prod.fst x'3) ∧ ∀ (y3 : Unit), True → Mk.feed_Q6 x4 b8 b9 b10 y1 len y2 x'2 x'3 fb fo sb so tk lk b off n c z m cap ez f pl op wg ms gv rb ro rn rc rz rf) ∧ True) ∧ True))) ∧ (t4 = Bool.false → (Prod.fst (Prod.snd (Prod.snd (Prod.snd x4))) = Prod.fst (Prod.snd (Prod.snd (Prod.snd x4))) ∧ (0 : Nat) = (0 : Nat)) ∧
      Mk.feed_Q5 x4 rb ro rn rc rz rf y1 fb fo sb so len tk lk b off n c z m cap ez f pl op wg ms gv)) ∧ ((Prod.fst (Prod.snd (Prod.snd (Prod.snd (Prod.snd (Prod.fst x4))))) = Bool.false → False) → ∀ (t3 : Bool), (t3 = if Prod.fst (Prod.snd (Prod.snd (Prod.snd (Prod.snd (Prod.fst x4))))) = Bool.true then Bool.true else Bool.false) → (t3 = Bool.true → (fb = fb ∧ fo = fo) ∧ ∀ (v3 : Int), v3 =
      Go.IntKind.wrap Go.IntKind.i64 ((32 : Int) + len) → (fb = fb ∧ fo = fo) ∧ ((!Prod.fst (Prod.snd (Prod.snd (Prod.snd (Prod.snd (Prod.fst x4)))))) = Bool.true → Mk.feed_Q7 x4 len fb fo sb so tk lk b off n c z m cap ez f pl op wg ms gv rb ro rn rc rz rf) ∧ ((!Prod.fst (Prod.snd (Prod.snd (Prod.snd (Prod.snd (Prod.fst x4)))))) = Bool.false → (fb = fb ∧ fo = fo) ∧ ∀ (v4 : Int), v4 = (↑(Eng.OwnD.n
      (Prod.fst (Prod.snd (Prod.snd (Prod.fst x4))))) : Int) → (Decidable.decide (v4 < v3) = Bool.true → (Prod.fst (Prod.snd (Prod.snd (Prod.snd x4))) = Prod.fst (Prod.snd (Prod.snd (Prod.snd x4))) ∧ (0 : Nat) = (0 : Nat)) ∧ Mk.feed_Q8 x4 rb ro rn rc rz rf fb fo sb so len tk lk b off n c z m cap ez f pl op wg ms gv) ∧ (Decidable.decide (v4 < v3) = Bool.false → (fb = fb ∧ fo = fo) ∧ (fb = fb ∧ fo = fo) ∧
      (fb = fb ∧ fo = fo) ∧ (fb = fb ∧ fo = fo) ∧ (0 : Int) ≤ v3 ∧ v3 ≤ (↑(Eng.OwnD.c (Prod.fst (Prod.snd (Prod.snd (Prod.fst x4))))) : Int) ∧ (0 : Int) ≤ (32 : Int) ∧ (32 : Int) ≤ v3 ∧
      ((match if Eng.OwnD.c (Prod.fst (Prod.snd (Prod.snd (Prod.fst x4)))) = Int.toNat (32 : Int) then (0 : Nat) else (32 : Nat) with | (0 : Nat) => Int.toNat v3 - Int.toNat (32 : Int) | Nat.succ i => i + (1 : Nat) + (Int.toNat v3 - Int.toNat (32 : Int))) ≤ Eng.OwnD.m (Prod.fst (Prod.snd (Prod.snd (Prod.fst x4)))) ∧ (∀ (k3 : Nat), k3 < Int.toNat v3 - Int.toNat (32 : Int) → Bool.true = Bool.true) ∧
      (Eng.OwnD.b (Prod.fst (Prod.snd (Prod.snd (Prod.fst x4)))) = Eng.OwnD.b (Prod.fst (Prod.snd (Prod.snd (Prod.fst x4)))) ∧ Eng.OwnD.off (Prod.fst (Prod.snd (Prod.snd (Prod.fst x4)))) = Eng.OwnD.off (Prod.fst (Prod.snd (Prod.snd (Prod.fst x4))))) ∧ ∀ (x'2 : Eng.RowD Int × Unit), x'2 = (Eng.RowD.mk (Eng.OwnD.b (Prod.fst (Prod.snd (Prod.snd (Prod.fst x4))))) (Eng.OwnD.off (Prod.fst (Prod.snd (Prod.snd
      (Prod.fst x4)))) + ((0 : Nat) + (if Eng.OwnD.c (Prod.fst (Prod.snd (Prod.snd (Prod.fst x4)))) = Int.toNat (32 : Int) then (0 : Nat) else (32 : Nat)) * (1 : Nat))) (Int.toNat v3 - Int.toNat (32 : Int)) (Eng.OwnD.c (Prod.fst (Prod.snd (Prod.snd (Prod.fst x4)))) - Int.toNat (32 : Int)) (Eng.OwnD.z (Prod.fst (Prod.snd (Prod.snd (Prod.fst x4))))) fun (k : Nat) ↦ Eng.OwnD.f (Prod.fst (Prod.snd (Prod.snd
      (Prod.fst x4)))) (match if Eng.OwnD.c (Prod.fst (Prod.snd (Prod.snd (Prod.fst x4)))) = Int.toNat (32 : Int) then (0 : Nat) else (32 : Nat) with | (0 : Nat) => k | Nat.succ i => i + (1 : Nat) + k), ()) → Eng.RowD.z (Prod.fst x'2) = Bool.false ∧ Eng.RowD.n (Prod.fst x'2) * (8 : Nat) ≤ (140737488355328 : Nat) ∧ ∀ (y1 : Nat × Nat × Nat), Eng.RowD.n (Prod.fst x'2) ≤ Prod.snd (Prod.snd y1) ∧ Prod.snd
      (Prod.snd y1) ≤ (9223372036854775807 : Nat) → (∀ (b6 : Nat), (Prod.fst (Prod.snd (Prod.snd (Prod.snd x4))) = Prod.fst (Prod.snd (Prod.snd (Prod.snd x4))) ∧ (0 : Nat) = (0 : Nat)) ∧ (b6 = b6 ∧ (0 : Nat) = (0 : Nat)) ∧ ∀ (b7 : Nat), (Prod.fst (Prod.fst (Prod.snd (Prod.snd x4))) = Prod.fst (Prod.fst (Prod.snd (Prod.snd x4))) ∧ Prod.fst (Prod.snd (Prod.fst (Prod.snd (Prod.snd x4)))) = Prod.fst
      (Prod.snd (Prod.fst (Prod.snd (Prod.snd x4))))) ∧ (Nat.beq (Prod.fst (Prod.snd x4)) (0 : Nat) = Bool.true → Nat.beq (Prod.fst (Prod.snd x4)) (0 : Nat) = Bool.true) ∧ (0 : Nat) = (0 : Nat) ∧ Prod.fst (Prod.snd x4) ≤ Prod.fst (Prod.snd x4) ∧ Prod.snd (Prod.snd (Prod.fst (Prod.snd (Prod.snd x4)))) ≤ Prod.snd (Prod.snd (Prod.fst (Prod.snd (Prod.snd x4)))) ∧ (Prod.fst (Prod.snd x4) + (1 : Nat)) * (40 :
      Nat) ≤ (140737488355328 : Nat) ∧ Prod.fst (Prod.snd x4) + (1 : Nat) ≤ (9223372036854775807 : Nat) ∧ (1 : Nat) ≤ (1 : Nat) ∧ (b7 = b7 ∧ (0 : Nat) = (0 : Nat)) ∧ ∀ (b8 b9 b10 : Nat), Prod.fst (Prod.snd x4) + (1 : Nat) ≤ b10 → b10 ≤ (9223372036854775807 : Nat) → (Nat.beq (Prod.fst (Prod.snd x4)) (0 : Nat) = Bool.true → (1 : Nat) = (0 : Nat) → b10 = (0 : Nat)) → (Prod.fst (Prod.snd (Prod.snd (Prod.snd
      x4))) = Prod.fst (Prod.snd (Prod.snd (Prod.snd x4))) ∧ (0 : Nat) = (0 : Nat)) ∧ (fb = fb ∧ fo = fo) ∧ (fb = fb ∧ fo = fo) ∧ (sb = sb ∧ so = so) ∧ (Eng.OwnD.b (Prod.fst (Prod.snd (Prod.snd (Prod.fst x4)))) = Eng.OwnD.b (Prod.fst (Prod.snd (Prod.snd (Prod.fst x4)))) ∧ Eng.OwnD.off (Prod.fst (Prod.snd (Prod.snd (Prod.fst x4)))) = Eng.OwnD.off (Prod.fst (Prod.snd (Prod.snd (Prod.fst x4))))) ∧ ((0 :
      Nat) = (0 : Nat) ∧ ∀ (k4 : Nat), k4 < Eng.OwnD.m (Prod.fst (Prod.snd (Prod.snd (Prod.fst x4)))) → Bool.true = Bool.true) ∧ ∀ (x'3 : (Nat × Nat × (Nat × Nat × Int × Bool × Unit) × Int × Eng.OwnD Int × Int × Bool × Int × Int × (Nat × Nat) × Unit) × Int × Unit), x'3 = ((fb, fo, (sb, so, Prod.fst (Prod.fst x4), Prod.fst (Prod.snd (Prod.fst x4)), ()), len, Prod.fst (Prod.snd (Prod.snd (Prod.fst x4))),
      Prod.fst (Prod.snd (Prod.snd (Prod.snd (Prod.fst x4)))), Bool.false, Prod.fst (Prod.snd (Prod.snd (Prod.snd (Prod.snd (Prod.snd (Prod.fst x4)))))), Prod.snd (Prod.snd (Prod.snd (Prod.snd (Prod.snd (Prod.snd (Prod.fst x4)))))), (Prod.fst (Prod.snd (Prod.snd (Prod.snd x4))), (0 : Nat)), ()), v3, ()) → ((0 : Int) ≤ Prod.fst (Prod.snd x'3) ∧ Prod.fst (Prod.snd x'3) ≤ (↑(Eng.OwnD.n (Prod.fst (Prod.snd
      (Prod.snd (Prod.snd (Prod.snd (Prod.fst x'3))))))) : Int)) ∧ Mk.FD.ok (Prod.fst x'3) ∧ ∀ (y2 : Unit), True → Mk.feed_Q9 x4 b8 b9 b10 len y1 x'2 x'3 fb fo sb so tk lk b off n c z m cap ez f pl op wg ms gv rb ro rn rc rz rf) ∧ True) ∧ True))) ∧ (t3 = Bool.false → (Prod.fst (Prod.snd (Prod.snd (Prod.snd x4))) = Prod.fst (Prod.snd (Prod.snd (Prod.snd x4))) ∧ (0 : Nat) = (0 : Nat)) ∧ Mk.feed_Q8 x4 rb ro
      rn rc rz rf fb fo sb so len tk lk b off n c z m cap ez f pl op wg ms gv))))) (by kernel_rfl) ?_
  obtain ⟨hp, _⟩ := hp
  have hp' := hp
  obtain ⟨⟨⟨a1, a2, a3, a4⟩, a5, a6, a7, a8, a9⟩, p2, p3, p4, p5, p6, p7⟩ := hp'
  dsimp only [FV.fd, FD.l, FD.pl, FD.ms, FD.lk, FD.op, FD.len] at a1 a2 a3 a4 a5 a6 a7 a8 a9 p2 p3 p4 p5 p6 p7
  obtain ⟨L, rfl⟩ : ∃ L : Nat, len = L := ⟨len.toNat, by omega⟩
  refine ⟨⟨rfl, rfl⟩, ⟨rfl, rfl⟩, fun t1 ht1 => ⟨fun h => (by rw [ht1] at h; cases h), fun _ => ⟨Nat.le_refl _, fun _ _ => rfl, ⟨rfl, rfl⟩, fun t2 ht2 => ⟨fun h => feed_Q2_ok (by rw [h] at ht2; simpa using ht2.symm) (by omega), fun h => ?_⟩⟩⟩⟩
  have hs : softB rf rn = true := by rw [h] at ht2; simpa using ht2.symm
  refine ⟨fun b1 => ⟨b1, ⟨rfl, rfl, rfl⟩, ⟨⟨rfl, rfl, rfl, Nat.le_refl _, Nat.le_refl _, Nat.le_refl _⟩, rfl, rfl, rfl, rfl, rfl, rfl⟩, trivial⟩, fun b2 _ => ?_⟩
  refine ⟨⟨rfl, rfl⟩, ⟨rfl, rfl⟩, ⟨rfl, rfl⟩, a5, rfl, a1, a4, by omega, by omega, Nat.le_refl _, ⟨rfl, rfl⟩, fun b3 b4 b5 h5 h5' h5'' => ?_⟩
  refine ⟨⟨rfl, rfl⟩, ⟨rfl, rfl⟩, ⟨rfl, rfl⟩, fun v1 hv1 v2 hv2 => ⟨⟨rfl, rfl⟩, feed_Q3_ok hp h5 (by rw [hv2, hv1]), fun x4 hx4 => ?_⟩⟩
  replace hx4 : feedL (fb, fo, (sb, so, tk, lk, ()), (L : Int), ⟨b, off, n, c, z, m, cap, ez, f⟩, pl, op, wg, ms, (0, 0), ()) ⟨rb, ro, rn, rc, rz, rf⟩ x4 := hx4
  have hx4' := hx4
  obtain ⟨z1, z2, z3, z4, z5, z6⟩ := hx4'
  have z2' := z2
  obtain ⟨⟨⟨c1, c2, c3, c4⟩, c5, c6, c7, c8, c9⟩, q2, q3, q4⟩ := z2'
  dsimp only [FD.upd, FD.mk, FD.l, FD.pl, FD.ms, FD.lk, FD.op, FD.len] at c1 c2 c3 c4 c5 c6 c7 c8 c9 q2 q3 q4 z5
  have hLn : Int.toNat (L : Int) = L := Int.toNat_natCast L
  have w32 : IntKind.i64.wrap (32 + (L : Int)) = ((32 + L : Nat) : Int) := by rw [w64_id (by omega) (by omega)]; omega
  have hk33 : x4.2.1 ≤ 33318534300 := by omega
  have hP : ∀ e : FD, Steps L (FD.upd (fb, fo, (sb, so, tk, lk, ()), (L : Int), ⟨b, off, n, c, z, m, cap, ez, f⟩, pl, op, wg, ms, (0, 0), ()) x4.1 (x4.2.2.2.1, 0)).abs [] e.abs → mstp L e.abs = none → feedInv e (pl + n + rn) → e.tk = x4.1.1 → feedP (fb, fo, (sb, so, tk, lk, ()), (L : Int), ⟨b, off, n, c, z, m, cap, ez, f⟩, pl, op, wg, ms, (0, 0), ()) ⟨rb, ro, rn, rc, rz, rf⟩ ((e.fy, x4.2), (0, 0)) := fun e h1 h2 h3 h4 => by
    unfold feedP
    rw [if_pos hs]
    have hst := z1.trans (show Steps (Int.toNat (L : Int)) _ [] e.abs by rw [hLn]; exact h1)
    rw [List.append_nil] at hst
    exact ⟨⟨hst, (show mstp (Int.toNat (L : Int)) e.abs = none by rw [hLn]; exact h2)⟩, h3, h4.trans z3, z4, hk33, z6⟩
  have hopen : ∀ e : FD, e.op = true → e.l.n < 32 + L → mstp L e.abs = none := fun e h1 h2 => by
    unfold mstp FD.abs
    dsimp only
    rw [if_pos h1, if_neg (by rw [rowL_len]; omega)]
  have h40 : (x4.2.1 + 1) * 40 ≤ 140737488355328 := by omega
  have hbz : (Nat.beq x4.2.1 0 && decide (1 = 0)) = Nat.beq (x4.2.1 + 1) 0 := by
    rw [decide_eq_false (by omega : ¬ 1 = 0), Bool.and_false]; rfl
  refine ⟨⟨rfl, rfl⟩, fun ho => ?_, fun ho t3 ht3 => ?_⟩
  · refine ⟨⟨rfl, rfl⟩, ⟨rfl, rfl⟩, ⟨rfl, rfl⟩, ⟨rfl, fun _ _ => rfl⟩, fun x1' hx1' => ?_⟩
    have hx1 : x1'.1 = FD.upd (fb, fo, (sb, so, tk, lk, ()), (L : Int), ⟨b, off, n, c, z, m, cap, ez, f⟩, pl, op, wg, ms, (0, 0), ()) x4.1 (x4.2.2.2.1, 0) := by rw [hx1']; rfl
    rw [hx1]
    refine ⟨z2.1, q3, fun (y1 : FD × Bool) hy1 t3 ht3 t4 ht4 => ?_⟩
    have ho' : (FD.upd (fb, fo, (sb, so, tk, lk, ()), (L : Int), ⟨b, off, n, c, z, m, cap, ez, f⟩, pl, op, wg, ms, (0, 0), ()) x4.1 (x4.2.2.2.1, 0)).op = false := ho
    obtain ⟨hIy, hlost⟩ := exam_ok z2 ho' hy1
    obtain ⟨hst, hhalt⟩ := exam_steps (len := L) ho' hy1
    obtain ⟨kk, hkk, g1, g2, g3, g4, g5, g6, g7, g8, g9⟩ := exam_keeps hy1
    have hIy' := hIy
    obtain ⟨⟨⟨d1, d2, d3, d4⟩, d5, d6, d7, d8, d9⟩, r2, r3, r4⟩ := hIy'
    have g2' : y1.1.pl = x4.1.2.2.2.1 + kk := g2
    have g4' : y1.1.len = L := g4
    have hn' : y1.1.l.n = x4.1.2.2.1.n - kk := by rw [g1]; rfl
    have hkk : kk ≤ x4.1.2.2.1.n := hkk
    have e4 : t4 = y1.2 := by rw [ht4, if_neg (by rw [ho]; decide), ht3]
    refine ⟨fun h4 => ⟨⟨g6, g7⟩, fun v3 hv3 => ?_⟩, fun h4 => ⟨⟨rfl, rfl⟩, ?_⟩⟩
    · have e3 : v3 = ((32 + L : Nat) : Int) := by rw [hv3]; show IntKind.i64.wrap (32 + y1.1.len) = _; rw [g4']; exact w32
      subst e3
      refine ⟨⟨g6, g7⟩, fun hop => ?_, fun hop => ⟨⟨g6, g7⟩, fun v4 hv4 => ?_⟩⟩
      · have hop : y1.1.op = false := by rw [Bool.not_eq_true'] at hop; exact hop
        obtain ⟨l1, l2, l3⟩ := hlost hop (by rw [← e4]; exact h4)
        have l1 : x4.1.2.1 = true := l1
        have l3 : y1.1.l.n = x4.1.2.2.1.n := l3
        refine feed_Q4_ok g6 g7 g8 g9 g4' g5 d2 z4 ⟨?_, hIy, (by rw [← z3]; exact g3), z4, ?_, z6⟩ (by rw [l1, l2, l3, if_pos rfl, if_neg (by decide)]; omega)
        · have := z1.trans (show Steps (Int.toNat (L : Int)) _ [] y1.1.abs by rw [hLn]; exact hst)
          rw [List.append_nil] at this
          exact this
        · show pl + ((33 * x4.2.1 : Nat) : Int) ≤ y1.1.pl; omega
      have hop : y1.1.op = true := by simpa using hop
      have hv4 : v4 = (y1.1.l.n : Int) := hv4
      subst hv4
      refine ⟨fun hlt => ⟨⟨rfl, rfl⟩, ?_⟩, fun hge => ?_⟩
      · have hlt := of_decide_eq_true hlt
        exact feed_Q5_ok hs g6 g7 g8 g9 g4' d2 z4 (hP y1.1 hst (hopen y1.1 hop (by omega)) hIy g3)
      have hge := of_decide_eq_false hge
      have hn32 : 32 + L ≤ y1.1.l.n := by omega
      have hc32 : 32 + L ≤ y1.1.l.c := by omega
      have h3 : (if y1.1.l.c = Int.toNat 32 then 0 else Int.toNat 32) = 32 := if_neg (by show ¬ y1.1.l.c = 32; omega)
      have t32 : Int.toNat ((32 + L : Nat) : Int) - Int.toNat 32 = L := by rw [Int.toNat_natCast]; show 32 + L - 32 = L; omega
      refine ⟨⟨g6, g7⟩, ⟨g6, g7⟩, ⟨g6, g7⟩, ⟨g6, g7⟩, by omega, by show ((32 + L : Nat) : Int) ≤ (y1.1.l.c : Int); omega, by omega, by omega, ?_⟩
      rw [t32]
      rw [show (if OwnD.c (Prod.fst (Prod.snd (Prod.snd (Prod.snd (Prod.snd (Prod.fst y1)))))) = Int.toNat 32 then 0 else 32) = 32 from h3]
      refine ⟨⟨by show 31 + 1 + L ≤ y1.1.l.m; omega, fun _ _ => rfl, ⟨rfl, rfl⟩, fun x2' hx2' => ?_⟩, trivial⟩
      have n2 : x2'.1.n = L := by rw [hx2']
      have zz : x2'.1.z = y1.1.l.z := by rw [hx2']
      have f2 : ∀ j, j < L → x2'.1.f j = y1.1.l.f (32 + j) := fun j _ => by rw [hx2']
      clear hx2'
      refine ⟨?_, by omega, fun y2 hy2 => ⟨fun b6 => ⟨⟨(congrArg Prod.fst (show y1.1.gv = (x4.2.2.2.1, 0) from g5)).symm, (congrArg Prod.snd (show y1.1.gv = (x4.2.2.2.1, 0) from g5)).symm⟩, ⟨rfl, rfl⟩, fun b7 => ?_⟩, trivial⟩⟩
      · rw [zz]
        cases hz : y1.1.l.z with
        | false => rfl
        | true => have := r2 hz; omega
      refine ⟨⟨rfl, rfl⟩, fun h => h, rfl, Nat.le_refl _, Nat.le_refl _, h40, by omega, Nat.le_refl _, ⟨rfl, rfl⟩, fun b8 b9 b10 h10 _ _ => ?_⟩
      refine ⟨⟨(congrArg Prod.fst (show y1.1.gv = (x4.2.2.2.1, 0) from g5)).symm, (congrArg Prod.snd (show y1.1.gv = (x4.2.2.2.1, 0) from g5)).symm⟩, ⟨g6, g7⟩, ⟨g6, g7⟩, ⟨rfl, rfl⟩, ⟨rfl, rfl⟩, ⟨rfl, fun _ _ => rfl⟩, fun x3' hx3' => ?_⟩
      have hF := feedL_emit (A := (b8, b9, b10)) (x := (y1.1.pl, y1.1.wg, y2.1, y2.2.1, y2.2.2, fun j => y1.1.l.f (32 + j))) hLn (by omega) hx4 hst hop hIy hn32 g3 (by omega) ⟨rfl, rfl, fun _ _ => rfl⟩ h10
      have hme : 2 * (y1.1.l.n - (32 + L)) + (if y1.1.lk = true then 1 else 0) < 2 * x4.1.2.2.1.n + if x4.1.2.1 = true then 1 else 0 := by
        have : (if y1.1.lk = true then 1 else 0) ≤ 1 := by split <;> omega
        omega
      have hq := feed_Q6_ok (gv := gv) (y2 := y2) hLn hx3' n2 f2 g8 g9 g4' g5 d2 h10 hbz hF hme
      have hx3a : x3'.2.1 = ((32 + L : Nat) : Int) := by rw [hx3']
      have hx3l : FD.l x3'.1 = y1.1.l := by rw [hx3']
      refine ⟨⟨by rw [hx3a]; omega, ?_⟩, ?_, fun _ _ => hq⟩
      · rw [hx3a]
        show ((32 + L : Nat) : Int) ≤ ((FD.l x3'.1).n : Int)
        rw [hx3l]; omega
      · rw [hx3']
        exact ⟨⟨d1, d2, d3, d4⟩, d5, d6, d7, d8, d9⟩
    · have hb : y1.2 = false := by rw [← e4]; exact h4
      exact feed_Q5_ok hs g6 g7 g8 g9 g4' d2 z4 (hP y1.1 hst (hhalt hb).1 hIy g3)
  · have hop : x4.1.2.2.2.2.1 = true := by
      cases h : x4.1.2.2.2.2.1 with
      | true => rfl
      | false => exact (ho h).elim
    have hP8 : x4.1.2.2.1.n < 32 + L → feed_Q8 x4 rb ro rn rc rz rf fb fo sb so (L : Int) tk lk b off n c z m cap ez f pl op wg ms gv := fun hlt =>
      feed_Q8_ok hs c2 z4 (hP (FD.upd (fb, fo, (sb, so, tk, lk, ()), (L : Int), ⟨b, off, n, c, z, m, cap, ez, f⟩, pl, op, wg, ms, (0, 0), ()) x4.1 (x4.2.2.2.1, 0)) (.refl _) (hopen _ hop hlt) z2 rfl)
    refine ⟨fun h3 => ⟨⟨rfl, rfl⟩, fun v3 hv3 => ?_⟩, fun h3 => ?_⟩
    · have e3 : v3 = ((32 + L : Nat) : Int) := hv3.trans w32
      subst e3
      refine ⟨⟨rfl, rfl⟩, fun hb => (by rw [hop] at hb; cases hb), fun _ => ⟨⟨rfl, rfl⟩, fun v4 hv4 => ?_⟩⟩
      subst hv4
      refine ⟨fun hlt => ⟨⟨rfl, rfl⟩, hP8 (by have := of_decide_eq_true hlt; omega)⟩, fun hge => ?_⟩
      have hge := of_decide_eq_false hge
      have hn32 : 32 + L ≤ x4.1.2.2.1.n := by omega
      have hc32 : 32 + L ≤ x4.1.2.2.1.c := by omega
      have h3 : (if x4.1.2.2.1.c = Int.toNat 32 then 0 else 32) = 32 := if_neg (by show ¬ x4.1.2.2.1.c = 32; omega)
      have t32 : Int.toNat ((32 + L : Nat) : Int) - Int.toNat 32 = L := by rw [Int.toNat_natCast]; show 32 + L - 32 = L; omega
      refine ⟨⟨rfl, rfl⟩, ⟨rfl, rfl⟩, ⟨rfl, rfl⟩, ⟨rfl, rfl⟩, by omega, by omega, by omega, by omega, ?_⟩
      rw [t32, h3]
      refine ⟨⟨by show 31 + 1 + L ≤ x4.1.2.2.1.m; omega, fun _ _ => rfl, ⟨rfl, rfl⟩, fun x2' hx2' => ?_⟩, trivial⟩
      have n2 : x2'.1.n = L := by rw [hx2']
      have zz : x2'.1.z = x4.1.2.2.1.z := by rw [hx2']
      have f2 : ∀ j, j < L → x2'.1.f j = x4.1.2.2.1.f (32 + j) := fun j _ => by rw [hx2']
      clear hx2'
      refine ⟨?_, by omega, fun y2 hy2 => ⟨fun b6 => ⟨⟨rfl, rfl⟩, ⟨rfl, rfl⟩, fun b7 => ?_⟩, trivial⟩⟩
      · rw [zz]
        cases hz : x4.1.2.2.1.z with
        | false => rfl
        | true => have := q2 hz; omega
      refine ⟨⟨rfl, rfl⟩, fun h => h, rfl, Nat.le_refl _, Nat.le_refl _, h40, by omega, Nat.le_refl _, ⟨rfl, rfl⟩, fun b8 b9 b10 h10 _ _ => ?_⟩
      refine ⟨⟨rfl, rfl⟩, ⟨rfl, rfl⟩, ⟨rfl, rfl⟩, ⟨rfl, rfl⟩, ⟨rfl, rfl⟩, ⟨rfl, fun _ _ => rfl⟩, fun x3' hx3' => ?_⟩
      have hF := feedL_emit (e := FD.upd (fb, fo, (sb, so, tk, lk, ()), (L : Int), ⟨b, off, n, c, z, m, cap, ez, f⟩, pl, op, wg, ms, (0, 0), ()) x4.1 (x4.2.2.2.1, 0)) (A := (b8, b9, b10)) (x := (x4.1.2.2.2.1, x4.1.2.2.2.2.2.1, y2.1, y2.2.1, y2.2.2, fun j => x4.1.2.2.1.f (32 + j))) hLn (by omega) hx4 (.refl _) hop z2 hn32 rfl (Int.le_refl _) ⟨rfl, rfl, fun _ _ => rfl⟩ h10
      have hme : 2 * (x4.1.2.2.1.n - (32 + L)) + (if x4.1.2.1 = true then 1 else 0) < 2 * x4.1.2.2.1.n + if x4.1.2.1 = true then 1 else 0 := by omega
      have hq := feed_Q9_ok (gv := gv) (y2 := y2) hLn hx3' n2 f2 c2 h10 hbz hF hme
      have hx3a : x3'.2.1 = ((32 + L : Nat) : Int) := by rw [hx3']
      have hx3l : FD.l x3'.1 = x4.1.2.2.1 := by rw [hx3']
      refine ⟨⟨by rw [hx3a]; omega, ?_⟩, ?_, fun _ _ => hq⟩
      · rw [hx3a]
        show ((32 + L : Nat) : Int) ≤ ((FD.l x3'.1).n : Int)
        rw [hx3l]; omega
      · rw [hx3']
        exact ⟨⟨c1, c2, c3, c4⟩, c5, c6, c7, c8, c9⟩
    · rw [hop] at ht3
      rw [ht3] at h3
      cases h3
end Mk
