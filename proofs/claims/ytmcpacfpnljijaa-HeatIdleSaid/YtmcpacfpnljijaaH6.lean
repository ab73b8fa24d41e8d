/-
  OWN WORK (written by gen_h6.py). Heat: outside, radiation, conduction, limit.
-/
import Derived.Test.YtmcpacfpnljijaaH5
namespace Heat
open Go Go.Proofs Eng
set_option linter.unusedVariables false
set_option linter.unusedSimpArgs false

/-- Nodes, and a heat that is counted. -/
abbrev TS := (Nat → Node) × Int
def outRound (q : Nat → Int) (s : TS) (k : Nat) : TS := (setH s.1 k (w64 ((s.1 k).1 + q k)), w64 (s.2 + q k))
def kelvF (nd : Node) : Int := if 1048 < w64 ((warmF nd.1 nd.2.1).tdiv 1000) then 1048 else w64 ((warmF nd.1 nd.2.1).tdiv 1000)
def glowF (rate kelv : Int) : Int := (w64 (w64 (rate * w64 (kelv * kelv)) * w64 (kelv * kelv))).fdiv (2 ^ min 32 IntKind.i64.bits)
def radQ (nd : Node) (rate : Int) : Int := if glowF rate (kelvF nd) < nd.1 then glowF rate (kelvF nd) else nd.1
def loseF (s : TS) (k : Nat) (q : Int) : TS := (setH s.1 k (w64 ((s.1 k).1 - q)), w64 (s.2 + q))
def radRound (rate : Nat → Int) (s : TS) (k : Nat) : TS := loseF s k (radQ (s.1 k) (rate k))
def limQ (nd : Node) : Int := if 0 < w64 (nd.1 - mostF nd.2.1) then w64 (nd.1 - mostF nd.2.1) else 0
def limRound (s : TS) (k : Nat) : TS := loseF s k (limQ (s.1 k))
theorem ite_ix {β : Type} (f : Nat → β) (i k : Nat) : (if i = k then f k else f i) = f i := by split <;> simp [*]
def tRun (st : TS → Nat → TS) (s : TS) : Nat → TS
  | 0 => s
  | k + 1 => st (tRun st s k) k
theorem tRun_stat {st : TS → Nat → TS} (h : ∀ s k i, ((st s k).1 i).2 = (s.1 i).2) (s : TS) : ∀ k i, ((tRun st s k).1 i).2 = (s.1 i).2
  | 0, _ => rfl
  | k + 1, i => (h _ _ _).trans (tRun_stat h s k i)
theorem out_stat (q : Nat → Int) (s : TS) (k i : Nat) : ((outRound q s k).1 i).2 = (s.1 i).2 := rfl
theorem rad_stat (q : Nat → Int) (s : TS) (k i : Nat) : ((radRound q s k).1 i).2 = (s.1 i).2 := rfl
theorem lim_stat (s : TS) (k i : Nat) : ((limRound s k).1 i).2 = (s.1 i).2 := rfl
abbrev XT.outUpd (x : XT) (k : Nat) : XT := x.upd (tRun (outRound x.inn.f) (x.nodes.f, x.flow.1) k).1 x.heaters.f ((tRun (outRound x.inn.f) (x.nodes.f, x.flow.1) k).2, x.flow.2.1, x.flow.2.2.1, ())
abbrev XT.radUpd (x : XT) (k : Nat) : XT := x.upd (tRun (radRound x.rad.f) (x.nodes.f, x.flow.2.2.1) k).1 x.heaters.f (x.flow.1, x.flow.2.1, (tRun (radRound x.rad.f) (x.nodes.f, x.flow.2.2.1) k).2, ())
abbrev XT.limUpd (x : XT) (k : Nat) : XT := x.upd (tRun limRound (x.nodes.f, x.flow.2.2.1) k).1 x.heaters.f (x.flow.1, x.flow.2.1, (tRun limRound (x.nodes.f, x.flow.2.2.1) k).2, ())

def EL : Env := EB.inl 58 Try.f58 (fun _ _ => [])
theorem EL_ok : EnvOk Try.prog EL := EB_ok.inl _ (by kernel_rfl) (by kernel_rfl) (by kernel_rfl)

def outside := ecU aTick XT.pre (fun _ (_ : Unit) => True) (fun x _ => XT.outUpd x (XT.inn x).n) (fun _ _ => .tup [])
theorem outside_ok : EcOk Try.prog 50 outside := by
  refine ecC_run (fun _ => EB_ok) Try.func50 rfl (by kernel_rfl) [] (fun x => [.loop ⟨1, Nat, [9], fun k => [.int .i64 k], [0, 1, 3], fun k => Hp.owned (aTick.hp 0 (XT.outUpd x k)), fun k => k ≤ (XT.inn x).n, fun k => (XT.inn x).n - k⟩])
    (fun _ => Nat.le_of_ble_eq_true rfl) (fun ⟨⟨b, o, (⟨nb, no, nn, nc, nz, nm, ncap, nez, nf⟩, ⟨pb, po, pn, pc, pz, pf⟩, ⟨hb, ho, hn, hc, hz, hm, hcap, hez, hf⟩, ⟨rb, ro, rn, rc, rz, rf⟩, ()), ⟨ib, io, inn, ic, iz, if'⟩, pw, (fi, fh, fo, ()), ()⟩, ()⟩ hp hw => ?_)
  refine vc_of (q :=
      (b = b ∧ o = o) ∧ ∀ (v1 : Int), v1 = (↑inn : Int) → (∃ (x1 : Nat), (0 : Int) = (↑x1 : Int) ∧ ((b = b ∧ o = o ∧ Bool.false = Bool.false ∧ (1 : Nat) ≤ (1 : Nat) ∧ (1 : Nat) ≤ (1 : Nat) ∧ (1 : Nat) ≤ (1 : Nat)) ∧ ((nb = nb ∧ no = no ∧ (0 : Nat) = (0 : Nat) ∧ nn = nn ∧ nc = nc ∧ nz = nz) ∧ (pb = pb ∧ po = po ∧ (0 : Nat) = (0 : Nat) ∧ pn = pn ∧ pc = pc ∧ pz = pz) ∧ (hb = hb ∧ ho = ho ∧ (0 : Nat) = (0 :
      Nat) ∧ hn = hn ∧ hc = hc ∧ hz = hz) ∧ rb = rb ∧ ro = ro ∧ (0 : Nat) = (0 : Nat) ∧ rn = rn ∧ rc = rc ∧ rz = rz) ∧ (ib = ib ∧ io = io ∧ (0 : Nat) = (0 : Nat) ∧ inn = inn ∧ ic = ic ∧ iz = iz) ∧ pw = pw ∧ fi = Prod.snd (Heat.tRun (Heat.outRound if') (nf, fi) x1) ∧ fh = fh ∧ fo = fo) ∧ ((nb = nb ∧ no = no ∧ nez = nez ∧ nm ≤ nm ∧ nm ≤ ncap ∧ ncap ≤ ncap) ∧ ∀ (i1 : Nat), i1 < nm → Prod.fst (nf i1) =
      Prod.fst (Prod.fst (Heat.tRun (Heat.outRound if') (nf, fi) x1) i1) ∧ Prod.fst (Prod.snd (nf i1)) = Prod.fst (Prod.snd (Prod.fst (Heat.tRun (Heat.outRound if') (nf, fi) x1) i1))) ∧ ((hb = hb ∧ ho = ho ∧ hez = hez ∧ hm ≤ hm ∧ hm ≤ hcap ∧ hcap ≤ hcap) ∧ ∀ (i2 : Nat), i2 < hm → Prod.fst (hf i2) = Prod.fst (hf i2) ∧ Prod.fst (Prod.snd (hf i2)) = Prod.fst (Prod.snd (hf i2)) ∧ Prod.fst (Prod.snd (Prod.snd
      (hf i2))) = Prod.fst (Prod.snd (Prod.snd (hf i2))) ∧ Prod.fst (Prod.snd (Prod.snd (Prod.snd (hf i2)))) = Prod.fst (Prod.snd (Prod.snd (Prod.snd (hf i2)))) ∧ Prod.fst (Prod.snd (Prod.snd (Prod.snd (Prod.snd (hf i2))))) = Prod.fst (Prod.snd (Prod.snd (Prod.snd (Prod.snd (hf i2)))))) ∧ Nat.le x1 inn) ∧ ∀ (b1 : Nat), b1 ≤ inn → (Decidable.decide ((↑b1 : Int) < v1) = Bool.true → (0 : Int) ≤ (↑b1 : Int)
      ∧ (↑b1 : Int) < (↑inn : Int) ∧ (ib = ib ∧ io = io) ∧ Int.toNat (↑b1 : Int) < inn ∧ (b = b ∧ o = o) ∧ (0 : Int) ≤ (↑b1 : Int) ∧ (↑b1 : Int) < (↑nn : Int) ∧ (nb = nb ∧ no = no) ∧ Int.toNat (↑b1 : Int) < nm ∧ ∀ (v2 : Int), v2 = Go.IntKind.wrap Go.IntKind.i64 (Prod.fst (Prod.fst (Heat.tRun (Heat.outRound if') (nf, fi) b1) (Int.toNat (↑b1 : Int))) + if' (Int.toNat (↑b1 : Int))) → (0 : Int) ≤ (↑b1 : Int)
      ∧ (↑b1 : Int) < (↑nn : Int) ∧ (nb = nb ∧ no = no) ∧ Int.toNat (↑b1 : Int) < nm ∧ (b = b ∧ o = o) ∧ ∀ (v3 : Int), v3 = Go.IntKind.wrap Go.IntKind.i64 (Prod.snd (Heat.tRun (Heat.outRound if') (nf, fi) b1) + if' (Int.toNat (↑b1 : Int))) → (b = b ∧ o = o) ∧ ∀ (v4 : Int), v4 = Go.IntKind.wrap Go.IntKind.i64 ((↑b1 : Int) + (1 : Int)) → ∃ (x2 : Nat), v4 = (↑x2 : Int) ∧ ((b = b ∧ o = o ∧ Bool.false =
      Bool.false ∧ (1 : Nat) ≤ (1 : Nat) ∧ (1 : Nat) ≤ (1 : Nat) ∧ (1 : Nat) ≤ (1 : Nat)) ∧ ((nb = nb ∧ no = no ∧ (0 : Nat) = (0 : Nat) ∧ nn = nn ∧ nc = nc ∧ nz = nz) ∧ (pb = pb ∧ po = po ∧ (0 : Nat) = (0 : Nat) ∧ pn = pn ∧ pc = pc ∧ pz = pz) ∧ (hb = hb ∧ ho = ho ∧ (0 : Nat) = (0 : Nat) ∧ hn = hn ∧ hc = hc ∧ hz = hz) ∧ rb = rb ∧ ro = ro ∧ (0 : Nat) = (0 : Nat) ∧ rn = rn ∧ rc = rc ∧ rz = rz) ∧ (ib = ib ∧
      io = io ∧ (0 : Nat) = (0 : Nat) ∧ inn = inn ∧ ic = ic ∧ iz = iz) ∧ pw = pw ∧ v3 = Prod.snd (Heat.tRun (Heat.outRound if') (nf, fi) x2) ∧ fh = fh ∧ fo = fo) ∧ ((nb = nb ∧ no = no ∧ nez = nez ∧ nm ≤ nm ∧ nm ≤ ncap ∧ ncap ≤ ncap) ∧ ∀ (i3 : Nat), i3 < nm → (if i3 = Int.toNat (↑b1 : Int) then v2 else Prod.fst (Prod.fst (Heat.tRun (Heat.outRound if') (nf, fi) b1) i3)) = Prod.fst (Prod.fst (Heat.tRun
      (Heat.outRound if') (nf, fi) x2) i3) ∧ (if i3 = Int.toNat (↑b1 : Int) then Prod.fst (Prod.snd (Prod.fst (Heat.tRun (Heat.outRound if') (nf, fi) b1) (Int.toNat (↑b1 : Int)))) else Prod.fst (Prod.snd (Prod.fst (Heat.tRun (Heat.outRound if') (nf, fi) b1) i3))) = Prod.fst (Prod.snd (Prod.fst (Heat.tRun (Heat.outRound if') (nf, fi) x2) i3))) ∧ ((hb = hb ∧ ho = ho ∧ hez = hez ∧ hm ≤ hm ∧ hm ≤ hcap ∧ hcap
      ≤ hcap) ∧ ∀ (i4 : Nat), i4 < hm → Prod.fst (hf i4) = Prod.fst (hf i4) ∧ Prod.fst (Prod.snd (hf i4)) = Prod.fst (Prod.snd (hf i4)) ∧ Prod.fst (Prod.snd (Prod.snd (hf i4))) = Prod.fst (Prod.snd (Prod.snd (hf i4))) ∧ Prod.fst (Prod.snd (Prod.snd (Prod.snd (hf i4)))) = Prod.fst (Prod.snd (Prod.snd (Prod.snd (hf i4)))) ∧ Prod.fst (Prod.snd (Prod.snd (Prod.snd (Prod.snd (hf i4))))) = Prod.fst (Prod.snd
      (Prod.snd (Prod.snd (Prod.snd (hf i4)))))) ∧ x2 ≤ inn ∧ inn - x2 < inn - b1) ∧ (Decidable.decide ((↑b1 : Int) < v1) = Bool.false → ∃ (x2 : Unit), True ∧ ((b = b ∧ o = o ∧ Bool.false = Bool.false ∧ (1 : Nat) ≤ (1 : Nat) ∧ (1 : Nat) ≤ (1 : Nat) ∧ (1 : Nat) ≤ (1 : Nat)) ∧ ((nb = nb ∧ no = no ∧ (0 : Nat) = (0 : Nat) ∧ nn = nn ∧ nc = nc ∧ nz = nz) ∧ (pb = pb ∧ po = po ∧ (0 : Nat) = (0 : Nat) ∧ pn = pn ∧
      pc = pc ∧ pz = pz) ∧ (hb = hb ∧ ho = ho ∧ (0 : Nat) = (0 : Nat) ∧ hn = hn ∧ hc = hc ∧ hz = hz) ∧ rb = rb ∧ ro = ro ∧ (0 : Nat) = (0 : Nat) ∧ rn = rn ∧ rc = rc ∧ rz = rz) ∧ (ib = ib ∧ io = io ∧ (0 : Nat) = (0 : Nat) ∧ inn = inn ∧ ic = ic ∧ iz = iz) ∧ pw = pw ∧ Prod.snd (Heat.tRun (Heat.outRound if') (nf, fi) b1) = Prod.snd (Heat.tRun (Heat.outRound if') (nf, fi) inn) ∧ fh = fh ∧ fo = fo) ∧ ((nb = nb
      ∧ no = no ∧ nez = nez ∧ nm ≤ nm ∧ nm ≤ ncap ∧ ncap ≤ ncap) ∧ ∀ (i3 : Nat), i3 < nm → Prod.fst (Prod.fst (Heat.tRun (Heat.outRound if') (nf, fi) b1) i3) = Prod.fst (Prod.fst (Heat.tRun (Heat.outRound if') (nf, fi) inn) i3) ∧ Prod.fst (Prod.snd (Prod.fst (Heat.tRun (Heat.outRound if') (nf, fi) b1) i3)) = Prod.fst (Prod.snd (Prod.fst (Heat.tRun (Heat.outRound if') (nf, fi) inn) i3))) ∧ ((hb = hb ∧ ho
      = ho ∧ hez = hez ∧ hm ≤ hm ∧ hm ≤ hcap ∧ hcap ≤ hcap) ∧ ∀ (i4 : Nat), i4 < hm → Prod.fst (hf i4) = Prod.fst (hf i4) ∧ Prod.fst (Prod.snd (hf i4)) = Prod.fst (Prod.snd (hf i4)) ∧ Prod.fst (Prod.snd (Prod.snd (hf i4))) = Prod.fst (Prod.snd (Prod.snd (hf i4))) ∧ Prod.fst (Prod.snd (Prod.snd (Prod.snd (hf i4)))) = Prod.fst (Prod.snd (Prod.snd (Prod.snd (hf i4)))) ∧ Prod.fst (Prod.snd (Prod.snd
      (Prod.snd (Prod.snd (hf i4))))) = Prod.fst (Prod.snd (Prod.snd (Prod.snd (Prod.snd (hf i4)))))) ∧ True)) (by kernel_rfl) ?_
  simp
  obtain ⟨p1, p2, p3, p4, p5, p6, p7, p8, p9, p10, hcap1, hcap2, _⟩ := hp
  dsimp only at p1 p2 p3 p4 p5 p6 p7 p8 p9 p10 hcap1 hcap2

  have hstat := tRun_stat (out_stat if') (nf, fi)
  refine ⟨⟨0, rfl, rfl, ⟨hcap1, fun _ _ => ⟨rfl, rfl⟩⟩, hcap2, Nat.zero_le _⟩, fun k hk => ⟨fun hlt => ?_, fun hge => ?_⟩⟩
  · have hs : tRun (outRound if') (nf, fi) (k + 1) = outRound if' (tRun (outRound if') (nf, fi) k) k := rfl
    have hst := hstat k
    have hw64 : IntKind.i64.wrap ((k : Int) + 1) = ((k + 1 : Nat) : Int) := l_succ (by omega)
    generalize tRun (outRound if') (nf, fi) k = s at *
    obtain ⟨s1, s2⟩ := s
    dsimp only at *
    have hpos := (p7 k (by omega)).1
    rw [← hst k] at hpos
    repeat' (first | apply And.intro | intro _)
    all_goals try omega
    refine ⟨k + 1, hw64, ?_⟩
    rw [hs]
    exact ⟨rfl, ⟨hcap1, fun i _ => ⟨rfl, ite_ix (fun i => (s1 i).2.1) i k⟩⟩, hcap2, by omega, by omega⟩
  · obtain rfl : k = inn := by omega
    simp [*]
def radiation := ecU aTick XT.pre (fun _ (_ : Unit) => True) (fun x _ => XT.radUpd x (XT.rad x).n) (fun _ _ => .tup [])
theorem radiation_ok : EcOk Try.prog 51 radiation := by
  refine ecC_run (fun _ => EL_ok) Try.func51 rfl (by kernel_rfl) [] (fun x => [.loop ⟨1, Nat, [13], fun k => [.int .i64 k], [0, 1, 3], fun k => Hp.owned (aTick.hp 0 (XT.radUpd x k)), fun k => k ≤ (XT.rad x).n, fun k => (XT.rad x).n - k⟩])
    (fun _ => Nat.le_of_ble_eq_true rfl) (fun ⟨⟨b, o, (⟨nb, no, nn, nc, nz, nm, ncap, nez, nf⟩, ⟨pb, po, pn, pc, pz, pf⟩, ⟨hb, ho, hn, hc, hz, hm, hcap, hez, hf⟩, ⟨rb, ro, rn, rc, rz, rf⟩, ()), ⟨ib, io, inn, ic, iz, if'⟩, pw, (fi, fh, fo, ()), ()⟩, ()⟩ hp hw => ?_)
  refine vc_of (q :=
      (b = b ∧ o = o) ∧ ∀ (v1 : Int), v1 = (↑rn : Int) → (∃ (x1 : Nat), (0 : Int) = (↑x1 : Int) ∧ ((b = b ∧ o = o ∧ Bool.false = Bool.false ∧ (1 : Nat) ≤ (1 : Nat) ∧ (1 : Nat) ≤ (1 : Nat) ∧ (1 : Nat) ≤ (1 : Nat)) ∧ ((nb = nb ∧ no = no ∧ (0 : Nat) = (0 : Nat) ∧ nn = nn ∧ nc = nc ∧ nz = nz) ∧ (pb = pb ∧ po = po ∧ (0 : Nat) = (0 : Nat) ∧ pn = pn ∧ pc = pc ∧ pz = pz) ∧ (hb = hb ∧ ho = ho ∧ (0 : Nat) = (0 :
      Nat) ∧ hn = hn ∧ hc = hc ∧ hz = hz) ∧ rb = rb ∧ ro = ro ∧ (0 : Nat) = (0 : Nat) ∧ rn = rn ∧ rc = rc ∧ rz = rz) ∧ (ib = ib ∧ io = io ∧ (0 : Nat) = (0 : Nat) ∧ inn = inn ∧ ic = ic ∧ iz = iz) ∧ pw = pw ∧ fi = fi ∧ fh = fh ∧ fo = Prod.snd (Heat.tRun (Heat.radRound rf) (nf, fo) x1)) ∧ ((nb = nb ∧ no = no ∧ nez = nez ∧ nm ≤ nm ∧ nm ≤ ncap ∧ ncap ≤ ncap) ∧ ∀ (i1 : Nat), i1 < nm → Prod.fst (nf i1) =
      Prod.fst (Prod.fst (Heat.tRun (Heat.radRound rf) (nf, fo) x1) i1) ∧ Prod.fst (Prod.snd (nf i1)) = Prod.fst (Prod.snd (Prod.fst (Heat.tRun (Heat.radRound rf) (nf, fo) x1) i1))) ∧ ((hb = hb ∧ ho = ho ∧ hez = hez ∧ hm ≤ hm ∧ hm ≤ hcap ∧ hcap ≤ hcap) ∧ ∀ (i2 : Nat), i2 < hm → Prod.fst (hf i2) = Prod.fst (hf i2) ∧ Prod.fst (Prod.snd (hf i2)) = Prod.fst (Prod.snd (hf i2)) ∧ Prod.fst (Prod.snd (Prod.snd
      (hf i2))) = Prod.fst (Prod.snd (Prod.snd (hf i2))) ∧ Prod.fst (Prod.snd (Prod.snd (Prod.snd (hf i2)))) = Prod.fst (Prod.snd (Prod.snd (Prod.snd (hf i2)))) ∧ Prod.fst (Prod.snd (Prod.snd (Prod.snd (Prod.snd (hf i2))))) = Prod.fst (Prod.snd (Prod.snd (Prod.snd (Prod.snd (hf i2)))))) ∧ Nat.le x1 rn) ∧ ∀ (b1 : Nat), b1 ≤ rn → (Decidable.decide ((↑b1 : Int) < v1) = Bool.true → (0 : Int) ≤ (↑b1 : Int) ∧
      (↑b1 : Int) < (↑rn : Int) ∧ (rb = rb ∧ ro = ro) ∧ Int.toNat (↑b1 : Int) < rn ∧ (b = b ∧ o = o) ∧ (0 : Int) ≤ (↑b1 : Int) ∧ (↑b1 : Int) < (↑nn : Int) ∧ (nb = nb ∧ no = no) ∧ Int.toNat (↑b1 : Int) < nm ∧ Prod.fst (Prod.snd (Prod.fst (Heat.tRun (Heat.radRound rf) (nf, fo) b1) (Int.toNat (↑b1 : Int)))) ≠ (0 : Int) ∧ ∀ (v2 : Int), v2 = Heat.warmF (Prod.fst (Prod.fst (Heat.tRun (Heat.radRound rf) (nf,
      fo) b1) (Int.toNat (↑b1 : Int)))) (Prod.fst (Prod.snd (Prod.fst (Heat.tRun (Heat.radRound rf) (nf, fo) b1) (Int.toNat (↑b1 : Int))))) → (1000 : Int) ≠ (0 : Int) ∧ ∀ (v3 : Int), v3 = Go.IntKind.wrap Go.IntKind.i64 (Int.tdiv v2 (1000 : Int)) → ∀ (v4 : Int), (v4 = if (1048 : Int) < v3 then (1048 : Int) else v3) → ∀ (v5 : Int), v5 = Go.IntKind.wrap Go.IntKind.i64 (v4 * v4) → (nb = nb ∧ no = no) ∧
      Int.toNat (↑b1 : Int) < nm ∧ ∀ (v6 : Int), v6 = Go.IntKind.wrap Go.IntKind.i64 (rf (Int.toNat (↑b1 : Int)) * v5) → ∀ (v7 : Int), v7 = Go.IntKind.wrap Go.IntKind.i64 (v6 * v5) → (0 : Int) ≤ (32 : Int) ∧ ∀ (v8 : Int), v8 = Int.fdiv v7 ((2 : Int) ^ Min.min (Int.toNat (32 : Int)) (Go.IntKind.bits Go.IntKind.i64)) → ∀ (v9 : Int), (v9 = if v8 < Prod.fst (Prod.fst (Heat.tRun (Heat.radRound rf) (nf, fo)
      b1) (Int.toNat (↑b1 : Int))) then v8 else Prod.fst (Prod.fst (Heat.tRun (Heat.radRound rf) (nf, fo) b1) (Int.toNat (↑b1 : Int)))) → (nb = nb ∧ no = no) ∧ Int.toNat (↑b1 : Int) < nm ∧ ∀ (v10 : Int), v10 = Go.IntKind.wrap Go.IntKind.i64 (Prod.fst (Prod.fst (Heat.tRun (Heat.radRound rf) (nf, fo) b1) (Int.toNat (↑b1 : Int))) - v9) → (nb = nb ∧ no = no) ∧ Int.toNat (↑b1 : Int) < nm ∧ (b = b ∧ o = o) ∧ ∀
      (v11 : Int), v11 = Go.IntKind.wrap Go.IntKind.i64 (Prod.snd (Heat.tRun (Heat.radRound rf) (nf, fo) b1) + v9) → (b = b ∧ o = o) ∧ ∀ (v12 : Int), v12 = Go.IntKind.wrap Go.IntKind.i64 ((↑b1 : Int) + (1 : Int)) → ∃ (x2 : Nat), v12 = (↑x2 : Int) ∧ ((b = b ∧ o = o ∧ Bool.false = Bool.false ∧ (1 : Nat) ≤ (1 : Nat) ∧ (1 : Nat) ≤ (1 : Nat) ∧ (1 : Nat) ≤ (1 : Nat)) ∧ ((nb = nb ∧ no = no ∧ (0 : Nat) = (0 :
      Nat) ∧ nn = nn ∧ nc = nc ∧ nz = nz) ∧ (pb = pb ∧ po = po ∧ (0 : Nat) = (0 : Nat) ∧ pn = pn ∧ pc = pc ∧ pz = pz) ∧ (hb = hb ∧ ho = ho ∧ (0 : Nat) = (0 : Nat) ∧ hn = hn ∧ hc = hc ∧ hz = hz) ∧ rb = rb ∧ ro = ro ∧ (0 : Nat) = (0 : Nat) ∧ rn = rn ∧ rc = rc ∧ rz = rz) ∧ (ib = ib ∧ io = io ∧ (0 : Nat) = (0 : Nat) ∧ inn = inn ∧ ic = ic ∧ iz = iz) ∧ pw = pw ∧ fi = fi ∧ fh = fh ∧ v11 = Prod.snd (Heat.tRun
      (Heat.radRound rf) (nf, fo) x2)) ∧ ((nb = nb ∧ no = no ∧ nez = nez ∧ nm ≤ nm ∧ nm ≤ ncap ∧ ncap ≤ ncap) ∧ ∀ (i3 : Nat), i3 < nm → (if i3 = Int.toNat (↑b1 : Int) then v10 else Prod.fst (Prod.fst (Heat.tRun (Heat.radRound rf) (nf, fo) b1) i3)) = Prod.fst (Prod.fst (Heat.tRun (Heat.radRound rf) (nf, fo) x2) i3) ∧ (if i3 = Int.toNat (↑b1 : Int) then Prod.fst (Prod.snd (Prod.fst (Heat.tRun
      (Heat.radRound rf) (nf, fo) b1) (Int.toNat (↑b1 : Int)))) else Prod.fst (Prod.snd (Prod.fst (Heat.tRun (Heat.radRound rf) (nf, fo) b1) i3))) = Prod.fst (Prod.snd (Prod.fst (Heat.tRun (Heat.radRound rf) (nf, fo) x2) i3))) ∧ ((hb = hb ∧ ho = ho ∧ hez = hez ∧ hm ≤ hm ∧ hm ≤ hcap ∧ hcap ≤ hcap) ∧ ∀ (i4 : Nat), i4 < hm → Prod.fst (hf i4) = Prod.fst (hf i4) ∧ Prod.fst (Prod.snd (hf i4)) = Prod.fst
      (Prod.snd (hf i4)) ∧ Prod.fst (Prod.snd (Prod.snd (hf i4))) = Prod.fst (Prod.snd (Prod.snd (hf i4))) ∧ Prod.fst (Prod.snd (Prod.snd (Prod.snd (hf i4)))) = Prod.fst (Prod.snd (Prod.snd (Prod.snd (hf i4)))) ∧ Prod.fst (Prod.snd (Prod.snd (Prod.snd (Prod.snd (hf i4))))) = Prod.fst (Prod.snd (Prod.snd (Prod.snd (Prod.snd (hf i4)))))) ∧ x2 ≤ rn ∧ rn - x2 < rn - b1) ∧ (Decidable.decide ((↑b1 : Int) < v1)
      = Bool.false → ∃ (x2 : Unit), True ∧ ((b = b ∧ o = o ∧ Bool.false = Bool.false ∧ (1 : Nat) ≤ (1 : Nat) ∧ (1 : Nat) ≤ (1 : Nat) ∧ (1 : Nat) ≤ (1 : Nat)) ∧ ((nb = nb ∧ no = no ∧ (0 : Nat) = (0 : Nat) ∧ nn = nn ∧ nc = nc ∧ nz = nz) ∧ (pb = pb ∧ po = po ∧ (0 : Nat) = (0 : Nat) ∧ pn = pn ∧ pc = pc ∧ pz = pz) ∧ (hb = hb ∧ ho = ho ∧ (0 : Nat) = (0 : Nat) ∧ hn = hn ∧ hc = hc ∧ hz = hz) ∧ rb = rb ∧ ro = ro
      ∧ (0 : Nat) = (0 : Nat) ∧ rn = rn ∧ rc = rc ∧ rz = rz) ∧ (ib = ib ∧ io = io ∧ (0 : Nat) = (0 : Nat) ∧ inn = inn ∧ ic = ic ∧ iz = iz) ∧ pw = pw ∧ fi = fi ∧ fh = fh ∧ Prod.snd (Heat.tRun (Heat.radRound rf) (nf, fo) b1) = Prod.snd (Heat.tRun (Heat.radRound rf) (nf, fo) rn)) ∧ ((nb = nb ∧ no = no ∧ nez = nez ∧ nm ≤ nm ∧ nm ≤ ncap ∧ ncap ≤ ncap) ∧ ∀ (i3 : Nat), i3 < nm → Prod.fst (Prod.fst (Heat.tRun
      (Heat.radRound rf) (nf, fo) b1) i3) = Prod.fst (Prod.fst (Heat.tRun (Heat.radRound rf) (nf, fo) rn) i3) ∧ Prod.fst (Prod.snd (Prod.fst (Heat.tRun (Heat.radRound rf) (nf, fo) b1) i3)) = Prod.fst (Prod.snd (Prod.fst (Heat.tRun (Heat.radRound rf) (nf, fo) rn) i3))) ∧ ((hb = hb ∧ ho = ho ∧ hez = hez ∧ hm ≤ hm ∧ hm ≤ hcap ∧ hcap ≤ hcap) ∧ ∀ (i4 : Nat), i4 < hm → Prod.fst (hf i4) = Prod.fst (hf i4) ∧
      Prod.fst (Prod.snd (hf i4)) = Prod.fst (Prod.snd (hf i4)) ∧ Prod.fst (Prod.snd (Prod.snd (hf i4))) = Prod.fst (Prod.snd (Prod.snd (hf i4))) ∧ Prod.fst (Prod.snd (Prod.snd (Prod.snd (hf i4)))) = Prod.fst (Prod.snd (Prod.snd (Prod.snd (hf i4)))) ∧ Prod.fst (Prod.snd (Prod.snd (Prod.snd (Prod.snd (hf i4))))) = Prod.fst (Prod.snd (Prod.snd (Prod.snd (Prod.snd (hf i4)))))) ∧ True)) (by kernel_rfl) ?_
  simp
  obtain ⟨p1, p2, p3, p4, p5, p6, p7, p8, p9, p10, hcap1, hcap2, _⟩ := hp
  dsimp only at p1 p2 p3 p4 p5 p6 p7 p8 p9 p10 hcap1 hcap2

  have hstat := tRun_stat (rad_stat rf) (nf, fo)
  refine ⟨⟨0, rfl, rfl, ⟨hcap1, fun _ _ => ⟨rfl, rfl⟩⟩, hcap2, Nat.zero_le _⟩, fun k hk => ⟨fun hlt => ?_, fun hge => ?_⟩⟩
  · have hs : tRun (radRound rf) (nf, fo) (k + 1) = radRound rf (tRun (radRound rf) (nf, fo) k) k := rfl
    have hst := hstat k
    have hw64 : IntKind.i64.wrap ((k : Int) + 1) = ((k + 1 : Nat) : Int) := l_succ (by omega)
    generalize tRun (radRound rf) (nf, fo) k = s at *
    obtain ⟨s1, s2⟩ := s
    dsimp only at *
    have hpos := (p7 k (by omega)).1
    rw [← hst k] at hpos
    repeat' (first | apply And.intro | intro _)
    all_goals try omega
    refine ⟨k + 1, hw64, ?_⟩
    rw [hs]
    exact ⟨rfl, ⟨hcap1, fun i _ => ⟨rfl, ite_ix (fun i => (s1 i).2.1) i k⟩⟩, hcap2, by omega, by omega⟩
  · obtain rfl : k = rn := by omega
    simp [*]
def limit := ecU aTick XT.pre (fun _ (_ : Unit) => True) (fun x _ => XT.limUpd x (XT.nodes x).n) (fun _ _ => .tup [])
theorem limit_ok : EcOk Try.prog 53 limit := by
  refine ecC_run (fun _ => EL_ok) Try.func53 rfl (by kernel_rfl) [] (fun x => [.draw 4 (.take 0 (.take 1 (.take 2 (.take 3 (.take 4 (.take 6 (.take 7 (.br 5 (.br 8 (.take 9 (.take 10 (.take 11 (.br 12 .fin .stop)))) .stop) (.br 8 (.take 9 (.br 5 (.take 10 (.take 11 (.br 12 .fin .stop))) .stop)) .stop))))))))) [3, 0], .loop ⟨1, Nat, [10], fun k => [.int .i64 k], [0, 1, 3], fun k => Hp.owned (aTick.hp 0 (XT.limUpd x k)), fun k => k ≤ (XT.nodes x).n, fun k => (XT.nodes x).n - k⟩])
    (fun _ => Nat.le_of_ble_eq_true rfl) (fun ⟨⟨b, o, (⟨nb, no, nn, nc, nz, nm, ncap, nez, nf⟩, ⟨pb, po, pn, pc, pz, pf⟩, ⟨hb, ho, hn, hc, hz, hm, hcap, hez, hf⟩, ⟨rb, ro, rn, rc, rz, rf⟩, ()), ⟨ib, io, inn, ic, iz, if'⟩, pw, (fi, fh, fo, ()), ()⟩, ()⟩ hp hw => ?_)
  refine vc_of (q :=
      (b = b ∧ o = o) ∧ ∀ (v1 : Int), v1 = (↑nn : Int) → (∃ (x1 : Nat), (0 : Int) = (↑x1 : Int) ∧ ((b = b ∧ o = o ∧ Bool.false = Bool.false ∧ (1 : Nat) ≤ (1 : Nat) ∧ (1 : Nat) ≤ (1 : Nat) ∧ (1 : Nat) ≤ (1 : Nat)) ∧ ((nb = nb ∧ no = no ∧ (0 : Nat) = (0 : Nat) ∧ nn = nn ∧ nc = nc ∧ nz = nz) ∧ (pb = pb ∧ po = po ∧ (0 : Nat) = (0 : Nat) ∧ pn = pn ∧ pc = pc ∧ pz = pz) ∧ (hb = hb ∧ ho = ho ∧ (0 : Nat) = (0 :
      Nat) ∧ hn = hn ∧ hc = hc ∧ hz = hz) ∧ rb = rb ∧ ro = ro ∧ (0 : Nat) = (0 : Nat) ∧ rn = rn ∧ rc = rc ∧ rz = rz) ∧ (ib = ib ∧ io = io ∧ (0 : Nat) = (0 : Nat) ∧ inn = inn ∧ ic = ic ∧ iz = iz) ∧ pw = pw ∧ fi = fi ∧ fh = fh ∧ fo = Prod.snd (Heat.tRun Heat.limRound (nf, fo) x1)) ∧ ((nb = nb ∧ no = no ∧ nez = nez ∧ nm ≤ nm ∧ nm ≤ ncap ∧ ncap ≤ ncap) ∧ ∀ (i1 : Nat), i1 < nm → Prod.fst (nf i1) = Prod.fst
      (Prod.fst (Heat.tRun Heat.limRound (nf, fo) x1) i1) ∧ Prod.fst (Prod.snd (nf i1)) = Prod.fst (Prod.snd (Prod.fst (Heat.tRun Heat.limRound (nf, fo) x1) i1))) ∧ ((hb = hb ∧ ho = ho ∧ hez = hez ∧ hm ≤ hm ∧ hm ≤ hcap ∧ hcap ≤ hcap) ∧ ∀ (i2 : Nat), i2 < hm → Prod.fst (hf i2) = Prod.fst (hf i2) ∧ Prod.fst (Prod.snd (hf i2)) = Prod.fst (Prod.snd (hf i2)) ∧ Prod.fst (Prod.snd (Prod.snd (hf i2))) = Prod.fst
      (Prod.snd (Prod.snd (hf i2))) ∧ Prod.fst (Prod.snd (Prod.snd (Prod.snd (hf i2)))) = Prod.fst (Prod.snd (Prod.snd (Prod.snd (hf i2)))) ∧ Prod.fst (Prod.snd (Prod.snd (Prod.snd (Prod.snd (hf i2))))) = Prod.fst (Prod.snd (Prod.snd (Prod.snd (Prod.snd (hf i2)))))) ∧ Nat.le x1 nn) ∧ ∀ (b1 : Nat), b1 ≤ nn → (Decidable.decide ((↑b1 : Int) < v1) = Bool.true → (b = b ∧ o = o) ∧ (0 : Int) ≤ (↑b1 : Int) ∧
      (↑b1 : Int) < (↑nn : Int) ∧ ((nb = nb ∧ no = no) ∧ Int.toNat (↑b1 : Int) < nm ∧ ((nb = nb ∧ no = no) ∧ Int.toNat (↑b1 : Int) < nm ∧ ∀ (v2 : Int), v2 = Heat.mostF (Prod.fst (Prod.snd (Prod.fst (Heat.tRun Heat.limRound (nf, fo) b1) (Int.toNat (↑b1 : Int))))) → ∀ (v3 : Int), v3 = Go.IntKind.wrap Go.IntKind.i64 (Prod.fst (Prod.fst (Heat.tRun Heat.limRound (nf, fo) b1) (Int.toNat (↑b1 : Int))) - v2) → ∀
      (v4 : Int), (v4 = if v3 > (0 : Int) then v3 else (0 : Int)) → ((nb = nb ∧ no = no) ∧ Int.toNat (↑b1 : Int) < nm ∧ ∀ (v5 : Int), v5 = Go.IntKind.wrap Go.IntKind.i64 (Prod.fst (Prod.fst (Heat.tRun Heat.limRound (nf, fo) b1) (Int.toNat (↑b1 : Int))) - v4) → (nb = nb ∧ no = no) ∧ Int.toNat (↑b1 : Int) < nm ∧ (b = b ∧ o = o) ∧ ∀ (v6 : Int), v6 = Go.IntKind.wrap Go.IntKind.i64 (Prod.snd (Heat.tRun
      Heat.limRound (nf, fo) b1) + v4) → (b = b ∧ o = o) ∧ ∀ (v7 : Int), v7 = Go.IntKind.wrap Go.IntKind.i64 ((↑b1 : Int) + (1 : Int)) → ∃ (x2 : Nat), v7 = (↑x2 : Int) ∧ ((b = b ∧ o = o ∧ Bool.false = Bool.false ∧ (1 : Nat) ≤ (1 : Nat) ∧ (1 : Nat) ≤ (1 : Nat) ∧ (1 : Nat) ≤ (1 : Nat)) ∧ ((nb = nb ∧ no = no ∧ (0 : Nat) = (0 : Nat) ∧ nn = nn ∧ nc = nc ∧ nz = nz) ∧ (pb = pb ∧ po = po ∧ (0 : Nat) = (0 : Nat)
      ∧ pn = pn ∧ pc = pc ∧ pz = pz) ∧ (hb = hb ∧ ho = ho ∧ (0 : Nat) = (0 : Nat) ∧ hn = hn ∧ hc = hc ∧ hz = hz) ∧ rb = rb ∧ ro = ro ∧ (0 : Nat) = (0 : Nat) ∧ rn = rn ∧ rc = rc ∧ rz = rz) ∧ (ib = ib ∧ io = io ∧ (0 : Nat) = (0 : Nat) ∧ inn = inn ∧ ic = ic ∧ iz = iz) ∧ pw = pw ∧ fi = fi ∧ fh = fh ∧ v6 = Prod.snd (Heat.tRun Heat.limRound (nf, fo) x2)) ∧ ((nb = nb ∧ no = no ∧ nez = nez ∧ nm ≤ nm ∧ nm ≤ ncap
      ∧ ncap ≤ ncap) ∧ ∀ (i3 : Nat), i3 < nm → (if i3 = Int.toNat (↑b1 : Int) then v5 else Prod.fst (Prod.fst (Heat.tRun Heat.limRound (nf, fo) b1) i3)) = Prod.fst (Prod.fst (Heat.tRun Heat.limRound (nf, fo) x2) i3) ∧ (if i3 = Int.toNat (↑b1 : Int) then Prod.fst (Prod.snd (Prod.fst (Heat.tRun Heat.limRound (nf, fo) b1) (Int.toNat (↑b1 : Int)))) else Prod.fst (Prod.snd (Prod.fst (Heat.tRun Heat.limRound
      (nf, fo) b1) i3))) = Prod.fst (Prod.snd (Prod.fst (Heat.tRun Heat.limRound (nf, fo) x2) i3))) ∧ ((hb = hb ∧ ho = ho ∧ hez = hez ∧ hm ≤ hm ∧ hm ≤ hcap ∧ hcap ≤ hcap) ∧ ∀ (i4 : Nat), i4 < hm → Prod.fst (hf i4) = Prod.fst (hf i4) ∧ Prod.fst (Prod.snd (hf i4)) = Prod.fst (Prod.snd (hf i4)) ∧ Prod.fst (Prod.snd (Prod.snd (hf i4))) = Prod.fst (Prod.snd (Prod.snd (hf i4))) ∧ Prod.fst (Prod.snd (Prod.snd
      (Prod.snd (hf i4)))) = Prod.fst (Prod.snd (Prod.snd (Prod.snd (hf i4)))) ∧ Prod.fst (Prod.snd (Prod.snd (Prod.snd (Prod.snd (hf i4))))) = Prod.fst (Prod.snd (Prod.snd (Prod.snd (Prod.snd (hf i4)))))) ∧ x2 ≤ nn ∧ nn - x2 < nn - b1) ∧ True) ∧ True) ∧ ((nb = nb ∧ no = no) ∧ Int.toNat (↑b1 : Int) < nm ∧ ∀ (v3 : Int), v3 = Heat.mostF (Prod.fst (Prod.snd (Prod.fst (Heat.tRun Heat.limRound (nf, fo) b1)
      (Int.toNat (↑b1 : Int))))) → ((nb = nb ∧ no = no) ∧ Int.toNat (↑b1 : Int) < nm ∧ ∀ (v4 : Int), v4 = Go.IntKind.wrap Go.IntKind.i64 (Prod.fst (Prod.fst (Heat.tRun Heat.limRound (nf, fo) b1) (Int.toNat (↑b1 : Int))) - v3) → ∀ (v5 : Int), (v5 = if v4 > (0 : Int) then v4 else (0 : Int)) → ((nb = nb ∧ no = no) ∧ Int.toNat (↑b1 : Int) < nm ∧ ∀ (v6 : Int), v6 = Go.IntKind.wrap Go.IntKind.i64 (Prod.fst
      (Prod.fst (Heat.tRun Heat.limRound (nf, fo) b1) (Int.toNat (↑b1 : Int))) - v5) → (nb = nb ∧ no = no) ∧ Int.toNat (↑b1 : Int) < nm ∧ (b = b ∧ o = o) ∧ ∀ (v7 : Int), v7 = Go.IntKind.wrap Go.IntKind.i64 (Prod.snd (Heat.tRun Heat.limRound (nf, fo) b1) + v5) → (b = b ∧ o = o) ∧ ∀ (v8 : Int), v8 = Go.IntKind.wrap Go.IntKind.i64 ((↑b1 : Int) + (1 : Int)) → ∃ (x2 : Nat), v8 = (↑x2 : Int) ∧ ((b = b ∧ o = o
      ∧ Bool.false = Bool.false ∧ (1 : Nat) ≤ (1 : Nat) ∧ (1 : Nat) ≤ (1 : Nat) ∧ (1 : Nat) ≤ (1 : Nat)) ∧ ((nb = nb ∧ no = no ∧ (0 : Nat) = (0 : Nat) ∧ nn = nn ∧ nc = nc ∧ nz = nz) ∧ (pb = pb ∧ po = po ∧ (0 : Nat) = (0 : Nat) ∧ pn = pn ∧ pc = pc ∧ pz = pz) ∧ (hb = hb ∧ ho = ho ∧ (0 : Nat) = (0 : Nat) ∧ hn = hn ∧ hc = hc ∧ hz = hz) ∧ rb = rb ∧ ro = ro ∧ (0 : Nat) = (0 : Nat) ∧ rn = rn ∧ rc = rc ∧ rz =
      rz) ∧ (ib = ib ∧ io = io ∧ (0 : Nat) = (0 : Nat) ∧ inn = inn ∧ ic = ic ∧ iz = iz) ∧ pw = pw ∧ fi = fi ∧ fh = fh ∧ v7 = Prod.snd (Heat.tRun Heat.limRound (nf, fo) x2)) ∧ ((nb = nb ∧ no = no ∧ nez = nez ∧ nm ≤ nm ∧ nm ≤ ncap ∧ ncap ≤ ncap) ∧ ∀ (i3 : Nat), i3 < nm → (if i3 = Int.toNat (↑b1 : Int) then v6 else Prod.fst (Prod.fst (Heat.tRun Heat.limRound (nf, fo) b1) i3)) = Prod.fst (Prod.fst (Heat.tRun
      Heat.limRound (nf, fo) x2) i3) ∧ (if i3 = Int.toNat (↑b1 : Int) then Prod.fst (Prod.snd (Prod.fst (Heat.tRun Heat.limRound (nf, fo) b1) (Int.toNat (↑b1 : Int)))) else Prod.fst (Prod.snd (Prod.fst (Heat.tRun Heat.limRound (nf, fo) b1) i3))) = Prod.fst (Prod.snd (Prod.fst (Heat.tRun Heat.limRound (nf, fo) x2) i3))) ∧ ((hb = hb ∧ ho = ho ∧ hez = hez ∧ hm ≤ hm ∧ hm ≤ hcap ∧ hcap ≤ hcap) ∧ ∀ (i4 : Nat),
      i4 < hm → Prod.fst (hf i4) = Prod.fst (hf i4) ∧ Prod.fst (Prod.snd (hf i4)) = Prod.fst (Prod.snd (hf i4)) ∧ Prod.fst (Prod.snd (Prod.snd (hf i4))) = Prod.fst (Prod.snd (Prod.snd (hf i4))) ∧ Prod.fst (Prod.snd (Prod.snd (Prod.snd (hf i4)))) = Prod.fst (Prod.snd (Prod.snd (Prod.snd (hf i4)))) ∧ Prod.fst (Prod.snd (Prod.snd (Prod.snd (Prod.snd (hf i4))))) = Prod.fst (Prod.snd (Prod.snd (Prod.snd
      (Prod.snd (hf i4)))))) ∧ x2 ≤ nn ∧ nn - x2 < nn - b1) ∧ True) ∧ True) ∧ True) ∧ (Decidable.decide ((↑b1 : Int) < v1) = Bool.false → ∃ (x2 : Unit), True ∧ ((b = b ∧ o = o ∧ Bool.false = Bool.false ∧ (1 : Nat) ≤ (1 : Nat) ∧ (1 : Nat) ≤ (1 : Nat) ∧ (1 : Nat) ≤ (1 : Nat)) ∧ ((nb = nb ∧ no = no ∧ (0 : Nat) = (0 : Nat) ∧ nn = nn ∧ nc = nc ∧ nz = nz) ∧ (pb = pb ∧ po = po ∧ (0 : Nat) = (0 : Nat) ∧ pn = pn
      ∧ pc = pc ∧ pz = pz) ∧ (hb = hb ∧ ho = ho ∧ (0 : Nat) = (0 : Nat) ∧ hn = hn ∧ hc = hc ∧ hz = hz) ∧ rb = rb ∧ ro = ro ∧ (0 : Nat) = (0 : Nat) ∧ rn = rn ∧ rc = rc ∧ rz = rz) ∧ (ib = ib ∧ io = io ∧ (0 : Nat) = (0 : Nat) ∧ inn = inn ∧ ic = ic ∧ iz = iz) ∧ pw = pw ∧ fi = fi ∧ fh = fh ∧ Prod.snd (Heat.tRun Heat.limRound (nf, fo) b1) = Prod.snd (Heat.tRun Heat.limRound (nf, fo) nn)) ∧ ((nb = nb ∧ no = no
      ∧ nez = nez ∧ nm ≤ nm ∧ nm ≤ ncap ∧ ncap ≤ ncap) ∧ ∀ (i3 : Nat), i3 < nm → Prod.fst (Prod.fst (Heat.tRun Heat.limRound (nf, fo) b1) i3) = Prod.fst (Prod.fst (Heat.tRun Heat.limRound (nf, fo) nn) i3) ∧ Prod.fst (Prod.snd (Prod.fst (Heat.tRun Heat.limRound (nf, fo) b1) i3)) = Prod.fst (Prod.snd (Prod.fst (Heat.tRun Heat.limRound (nf, fo) nn) i3))) ∧ ((hb = hb ∧ ho = ho ∧ hez = hez ∧ hm ≤ hm ∧ hm ≤
      hcap ∧ hcap ≤ hcap) ∧ ∀ (i4 : Nat), i4 < hm → Prod.fst (hf i4) = Prod.fst (hf i4) ∧ Prod.fst (Prod.snd (hf i4)) = Prod.fst (Prod.snd (hf i4)) ∧ Prod.fst (Prod.snd (Prod.snd (hf i4))) = Prod.fst (Prod.snd (Prod.snd (hf i4))) ∧ Prod.fst (Prod.snd (Prod.snd (Prod.snd (hf i4)))) = Prod.fst (Prod.snd (Prod.snd (Prod.snd (hf i4)))) ∧ Prod.fst (Prod.snd (Prod.snd (Prod.snd (Prod.snd (hf i4))))) = Prod.fst
      (Prod.snd (Prod.snd (Prod.snd (Prod.snd (hf i4)))))) ∧ True)) (by kernel_rfl) ?_
  simp
  obtain ⟨p1, p2, p3, p4, p5, p6, p7, p8, p9, p10, hcap1, hcap2, _⟩ := hp
  dsimp only at p1 p2 p3 p4 p5 p6 p7 p8 p9 p10 hcap1 hcap2

  have hstat := tRun_stat (lim_stat) (nf, fo)
  refine ⟨⟨0, rfl, rfl, ⟨hcap1, fun _ _ => ⟨rfl, rfl⟩⟩, hcap2, Nat.zero_le _⟩, fun k hk => ⟨fun hlt => ?_, fun hge => ?_⟩⟩
  · have hs : tRun (limRound) (nf, fo) (k + 1) = limRound (tRun (limRound) (nf, fo) k) k := rfl
    have hst := hstat k
    have hw64 : IntKind.i64.wrap ((k : Int) + 1) = ((k + 1 : Nat) : Int) := l_succ (by omega)
    generalize tRun (limRound) (nf, fo) k = s at *
    obtain ⟨s1, s2⟩ := s
    dsimp only at *
    have hpos := (p7 k (by omega)).1
    rw [← hst k] at hpos
    repeat' (first | apply And.intro | intro _)
    all_goals try omega
    refine ⟨k + 1, hw64, ?_⟩
    rw [hs]
    exact ⟨rfl, ⟨hcap1, fun i _ => ⟨rfl, ite_ix (fun i => (s1 i).2.1) i k⟩⟩, hcap2, by omega, by omega⟩
  · obtain rfl : k = nn := by omega
    simp [*]
end Heat
