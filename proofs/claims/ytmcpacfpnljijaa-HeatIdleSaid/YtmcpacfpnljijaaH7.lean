/-
  OWN WORK. Heat: conduction.
-/
import Derived.Test.YtmcpacfpnljijaaH6
namespace Heat
open Go Go.Proofs Eng
set_option linter.unusedVariables false
set_option linter.unusedSimpArgs false

def m2 (x y : Int) : Int := if y < x then y else x
/-- The heat that flows from the node na, the warmer one by d, to the node nb. -/
def flowQ (d : Int) (na nb : Node) (conduct : Int) : Int :=
  m2 (m2 (w64 ((w64 (conduct * d)).tdiv 1000)) (w64 ((w64 (w64 (d * na.2.1) * nb.2.1)).tdiv (w64 (1000 * w64 (na.2.1 + nb.2.1)))))) na.1
def moveF (f : Nat → Node) (i j : Nat) (q : Int) : Nat → Node := setH (setH f i (w64 ((f i).1 - q))) j (w64 ((setH f i (w64 ((f i).1 - q)) j).1 + q))
def condRound (p : Nat → Path) (f : Nat → Node) (k : Nat) : Nat → Node :=
  if w64 (warmF (f (p k).1.toNat).1 (f (p k).1.toNat).2.1 - warmF (f (p k).2.1.toNat).1 (f (p k).2.1.toNat).2.1) < 0
  then moveF f (p k).2.1.toNat (p k).1.toNat (flowQ (w64 (-w64 (warmF (f (p k).1.toNat).1 (f (p k).1.toNat).2.1 - warmF (f (p k).2.1.toNat).1 (f (p k).2.1.toNat).2.1))) (f (p k).2.1.toNat) (f (p k).1.toNat) (p k).2.2.1)
  else moveF f (p k).1.toNat (p k).2.1.toNat (flowQ (w64 (warmF (f (p k).1.toNat).1 (f (p k).1.toNat).2.1 - warmF (f (p k).2.1.toNat).1 (f (p k).2.1.toNat).2.1)) (f (p k).1.toNat) (f (p k).2.1.toNat) (p k).2.2.1)
theorem condRound_stat (p : Nat → Path) (f : Nat → Node) (k i : Nat) : (condRound p f k i).2 = (f i).2 := by
  unfold condRound; split <;> rfl
def cRun (p : Nat → Path) (f : Nat → Node) : Nat → Nat → Node
  | 0 => f
  | k + 1 => condRound p (cRun p f k) k
theorem cRun_stat (p : Nat → Path) (f : Nat → Node) : ∀ k i, (cRun p f k i).2 = (f i).2
  | 0, _ => rfl
  | k + 1, i => (condRound_stat _ _ _ _).trans (cRun_stat p f k i)
abbrev XT.condUpd (x : XT) (k : Nat) : XT := x.upd (cRun x.paths.f x.nodes.f k) x.heaters.f x.flow
def conduction := ecU aTick XT.pre (fun _ (_ : Unit) => True) (fun x _ => XT.condUpd x (XT.paths x).n) (fun _ _ => .tup [])
theorem conduction_ok : EcOk Try.prog 52 conduction := by
  refine ecC_run (fun _ => EB_ok) Try.func52 rfl (by kernel_rfl) [] (fun x => [.draw 3 (.take 0 (.take 1 (.take 2 (.take 3 (.take 4 (.take 5 (.take 6 (.take 7 (.take 8 (.take 9 (.take 10 (.take 11 (.take 12 (.take 13 (.take 14 (.take 15 (.take 16 (.take 17 .fin)))))))))))))))))) [], .draw 4 (.take 0 (.take 1 (.take 2 (.take 3 (.take 4 (.take 5 (.take 6 (.take 7 (.take 8 (.take 9 .fin)))))))))) [], .draw 7 (.take 0 (.take 1 (.take 2 (.take 3 (.take 4 (.take 5 (.take 6 (.take 7 (.take 8 (.take 9 (.take 10 (.take 11 (.take 12 (.take 13 (.take 14 (.take 15 (.take 16 (.take 17 (.take 18 (.take 19 (.take 20 (.take 21 (.take 22 .fin))))))))))))))))))))))) [], .draw 8 (.take 0 (.take 1 (.take 2 (.take 3 (.take 4 (.take 5 (.take 6 (.take 7 (.take 8 (.take 9 (.take 10 (.take 11 .fin)))))))))))) [], .loop ⟨1, Nat, [15], fun k => [.int .i64 k], [0, 1, 3], fun k => Hp.owned (aTick.hp 0 (XT.condUpd x k)), fun k => k ≤ (XT.paths x).n, fun k => (XT.paths x).n - k⟩])
    (fun _ => Nat.le_of_ble_eq_true rfl) (fun ⟨⟨b, o, (⟨nb, no, nn, nc, nz, nm, ncap, nez, nf⟩, ⟨pb, po, pn, pc, pz, pf⟩, ⟨hb, ho, hn, hc, hz, hm, hcap, hez, hf⟩, ⟨rb, ro, rn, rc, rz, rf⟩, ()), ⟨ib, io, inn, ic, iz, if'⟩, pw, (fi, fh, fo, ()), ()⟩, ()⟩ hp hw => ?_)
  refine vc_of (q :=
      (b = b ∧ o = o) ∧ ∀ (v1 : Int), v1 = (↑pn : Int) → (∃ (x1 : Nat), (0 : Int) = (↑x1 : Int) ∧ ((b = b ∧ o = o ∧ Bool.false = Bool.false ∧ (1 : Nat) ≤ (1 : Nat) ∧ (1 : Nat) ≤ (1 : Nat) ∧ (1 : Nat) ≤ (1 : Nat)) ∧ ((nb = nb ∧ no = no ∧ (0 : Nat) = (0 : Nat) ∧ nn = nn ∧ nc = nc ∧ nz = nz) ∧ (pb = pb ∧ po = po ∧ (0 : Nat) = (0 : Nat) ∧ pn = pn ∧ pc = pc ∧ pz = pz) ∧ (hb = hb ∧ ho = ho ∧ (0 : Nat) = (0 :
      Nat) ∧ hn = hn ∧ hc = hc ∧ hz = hz) ∧ rb = rb ∧ ro = ro ∧ (0 : Nat) = (0 : Nat) ∧ rn = rn ∧ rc = rc ∧ rz = rz) ∧ (ib = ib ∧ io = io ∧ (0 : Nat) = (0 : Nat) ∧ inn = inn ∧ ic = ic ∧ iz = iz) ∧ pw = pw ∧ fi = fi ∧ fh = fh ∧ fo = fo) ∧ ((nb = nb ∧ no = no ∧ nez = nez ∧ nm ≤ nm ∧ nm ≤ ncap ∧ ncap ≤ ncap) ∧ ∀ (i1 : Nat), i1 < nm → Prod.fst (nf i1) = Prod.fst (Heat.cRun pf nf x1 i1) ∧ Prod.fst (Prod.snd
      (nf i1)) = Prod.fst (Prod.snd (Heat.cRun pf nf x1 i1))) ∧ ((hb = hb ∧ ho = ho ∧ hez = hez ∧ hm ≤ hm ∧ hm ≤ hcap ∧ hcap ≤ hcap) ∧ ∀ (i2 : Nat), i2 < hm → Prod.fst (hf i2) = Prod.fst (hf i2) ∧ Prod.fst (Prod.snd (hf i2)) = Prod.fst (Prod.snd (hf i2)) ∧ Prod.fst (Prod.snd (Prod.snd (hf i2))) = Prod.fst (Prod.snd (Prod.snd (hf i2))) ∧ Prod.fst (Prod.snd (Prod.snd (Prod.snd (hf i2)))) = Prod.fst
      (Prod.snd (Prod.snd (Prod.snd (hf i2)))) ∧ Prod.fst (Prod.snd (Prod.snd (Prod.snd (Prod.snd (hf i2))))) = Prod.fst (Prod.snd (Prod.snd (Prod.snd (Prod.snd (hf i2)))))) ∧ Nat.le x1 pn) ∧ ∀ (b1 : Nat), b1 ≤ pn → (Decidable.decide ((↑b1 : Int) < v1) = Bool.true → (0 : Int) ≤ (↑b1 : Int) ∧ (↑b1 : Int) < (↑pn : Int) ∧ (pb = pb ∧ po = po) ∧ Int.toNat (↑b1 : Int) < pn ∧ ∀ (b2 : Nat), (b2 = b2 ∧ (0 : Nat)
      = (0 : Nat)) ∧ (b = b ∧ o = o) ∧ (b2 = b2 ∧ (0 : Nat) = (0 : Nat)) ∧ (0 : Int) ≤ Prod.fst (pf (Int.toNat (↑b1 : Int))) ∧ Prod.fst (pf (Int.toNat (↑b1 : Int))) < (↑nn : Int) ∧ (b = b ∧ o = o) ∧ (b2 = b2 ∧ (0 : Nat) = (0 : Nat)) ∧ (0 : Int) ≤ Prod.fst (Prod.snd (pf (Int.toNat (↑b1 : Int)))) ∧ Prod.fst (Prod.snd (pf (Int.toNat (↑b1 : Int)))) < (↑nn : Int) ∧ (nb = nb ∧ no = no) ∧ Int.toNat (Prod.fst
      (pf (Int.toNat (↑b1 : Int)))) < nm ∧ Prod.fst (Prod.snd (Heat.cRun pf nf b1 (Int.toNat (Prod.fst (pf (Int.toNat (↑b1 : Int))))))) ≠ (0 : Int) ∧ ∀ (v2 : Int), v2 = Heat.warmF (Prod.fst (Heat.cRun pf nf b1 (Int.toNat (Prod.fst (pf (Int.toNat (↑b1 : Int))))))) (Prod.fst (Prod.snd (Heat.cRun pf nf b1 (Int.toNat (Prod.fst (pf (Int.toNat (↑b1 : Int)))))))) → (nb = nb ∧ no = no) ∧ Int.toNat (Prod.fst
      (Prod.snd (pf (Int.toNat (↑b1 : Int))))) < nm ∧ Prod.fst (Prod.snd (Heat.cRun pf nf b1 (Int.toNat (Prod.fst (Prod.snd (pf (Int.toNat (↑b1 : Int)))))))) ≠ (0 : Int) ∧ ∀ (v3 : Int), v3 = Heat.warmF (Prod.fst (Heat.cRun pf nf b1 (Int.toNat (Prod.fst (Prod.snd (pf (Int.toNat (↑b1 : Int)))))))) (Prod.fst (Prod.snd (Heat.cRun pf nf b1 (Int.toNat (Prod.fst (Prod.snd (pf (Int.toNat (↑b1 : Int))))))))) → ∀
      (v4 : Int), v4 = Go.IntKind.wrap Go.IntKind.i64 (v2 - v3) → (Decidable.decide (v4 < (0 : Int)) = Bool.true → ∀ (v5 : Int), v5 = Go.IntKind.wrap Go.IntKind.i64 ((0 : Int) - v4) → (nb = nb ∧ no = no) ∧ Int.toNat (Prod.fst (Prod.snd (pf (Int.toNat (↑b1 : Int))))) < nm ∧ ∀ (v6 : Int), v6 = Go.IntKind.wrap Go.IntKind.i64 (v5 * Prod.fst (Prod.snd (Heat.cRun pf nf b1 (Int.toNat (Prod.fst (Prod.snd (pf
      (Int.toNat (↑b1 : Int))))))))) → (nb = nb ∧ no = no) ∧ Int.toNat (Prod.fst (pf (Int.toNat (↑b1 : Int)))) < nm ∧ ∀ (v7 : Int), v7 = Go.IntKind.wrap Go.IntKind.i64 (v6 * Prod.fst (Prod.snd (Heat.cRun pf nf b1 (Int.toNat (Prod.fst (pf (Int.toNat (↑b1 : Int)))))))) → (nb = nb ∧ no = no) ∧ Int.toNat (Prod.fst (Prod.snd (pf (Int.toNat (↑b1 : Int))))) < nm ∧ (nb = nb ∧ no = no) ∧ Int.toNat (Prod.fst (pf
      (Int.toNat (↑b1 : Int)))) < nm ∧ ∀ (v8 : Int), v8 = Go.IntKind.wrap Go.IntKind.i64 (Prod.fst (Prod.snd (Heat.cRun pf nf b1 (Int.toNat (Prod.fst (Prod.snd (pf (Int.toNat (↑b1 : Int)))))))) + Prod.fst (Prod.snd (Heat.cRun pf nf b1 (Int.toNat (Prod.fst (pf (Int.toNat (↑b1 : Int)))))))) → ∀ (v9 : Int), v9 = Go.IntKind.wrap Go.IntKind.i64 ((1000 : Int) * v8) → v9 ≠ (0 : Int) ∧ ∀ (v10 : Int), v10 =
      Go.IntKind.wrap Go.IntKind.i64 (Int.tdiv v7 v9) → (b2 = b2 ∧ (0 : Nat) = (0 : Nat)) ∧ ∀ (v11 : Int), v11 = Go.IntKind.wrap Go.IntKind.i64 (Prod.fst (Prod.snd (Prod.snd (pf (Int.toNat (↑b1 : Int))))) * v5) → (1000 : Int) ≠ (0 : Int) ∧ ∀ (v12 : Int), v12 = Go.IntKind.wrap Go.IntKind.i64 (Int.tdiv v11 (1000 : Int)) → (nb = nb ∧ no = no) ∧ Int.toNat (Prod.fst (Prod.snd (pf (Int.toNat (↑b1 : Int))))) <
      nm ∧ ∀ (v13 : Int), (v13 = if Prod.fst (Heat.cRun pf nf b1 (Int.toNat (Prod.fst (Prod.snd (pf (Int.toNat (↑b1 : Int))))))) < if v10 < v12 then v10 else v12 then Prod.fst (Heat.cRun pf nf b1 (Int.toNat (Prod.fst (Prod.snd (pf (Int.toNat (↑b1 : Int))))))) else if v10 < v12 then v10 else v12) → (nb = nb ∧ no = no) ∧ Int.toNat (Prod.fst (Prod.snd (pf (Int.toNat (↑b1 : Int))))) < nm ∧ ∀ (v14 : Int), v14
      = Go.IntKind.wrap Go.IntKind.i64 (Prod.fst (Heat.cRun pf nf b1 (Int.toNat (Prod.fst (Prod.snd (pf (Int.toNat (↑b1 : Int))))))) - v13) → (nb = nb ∧ no = no) ∧ Int.toNat (Prod.fst (Prod.snd (pf (Int.toNat (↑b1 : Int))))) < nm ∧ (nb = nb ∧ no = no) ∧ Int.toNat (Prod.fst (pf (Int.toNat (↑b1 : Int)))) < nm ∧ ∀ (v15 : Int), v15 = Go.IntKind.wrap Go.IntKind.i64 ((if Int.toNat (Prod.fst (pf (Int.toNat (↑b1
      : Int)))) = Int.toNat (Prod.fst (Prod.snd (pf (Int.toNat (↑b1 : Int))))) then v14 else Prod.fst (Heat.cRun pf nf b1 (Int.toNat (Prod.fst (pf (Int.toNat (↑b1 : Int))))))) + v13) → (nb = nb ∧ no = no) ∧ Int.toNat (Prod.fst (pf (Int.toNat (↑b1 : Int)))) < nm ∧ ∀ (v16 : Int), v16 = Go.IntKind.wrap Go.IntKind.i64 ((↑b1 : Int) + (1 : Int)) → ∃ (x2 : Nat), v16 = (↑x2 : Int) ∧ ((b = b ∧ o = o ∧ Bool.false
      = Bool.false ∧ (1 : Nat) ≤ (1 : Nat) ∧ (1 : Nat) ≤ (1 : Nat) ∧ (1 : Nat) ≤ (1 : Nat)) ∧ ((nb = nb ∧ no = no ∧ (0 : Nat) = (0 : Nat) ∧ nn = nn ∧ nc = nc ∧ nz = nz) ∧ (pb = pb ∧ po = po ∧ (0 : Nat) = (0 : Nat) ∧ pn = pn ∧ pc = pc ∧ pz = pz) ∧ (hb = hb ∧ ho = ho ∧ (0 : Nat) = (0 : Nat) ∧ hn = hn ∧ hc = hc ∧ hz = hz) ∧ rb = rb ∧ ro = ro ∧ (0 : Nat) = (0 : Nat) ∧ rn = rn ∧ rc = rc ∧ rz = rz) ∧ (ib = ib
      ∧ io = io ∧ (0 : Nat) = (0 : Nat) ∧ inn = inn ∧ ic = ic ∧ iz = iz) ∧ pw = pw ∧ fi = fi ∧ fh = fh ∧ fo = fo) ∧ ((nb = nb ∧ no = no ∧ nez = nez ∧ nm ≤ nm ∧ nm ≤ ncap ∧ ncap ≤ ncap) ∧ ∀ (i3 : Nat), i3 < nm → (if i3 = Int.toNat (Prod.fst (pf (Int.toNat (↑b1 : Int)))) then v15 else if i3 = Int.toNat (Prod.fst (Prod.snd (pf (Int.toNat (↑b1 : Int))))) then v14 else Prod.fst (Heat.cRun pf nf b1 i3)) =
      Prod.fst (Heat.cRun pf nf x2 i3) ∧ (if i3 = Int.toNat (Prod.fst (pf (Int.toNat (↑b1 : Int)))) then if Int.toNat (Prod.fst (pf (Int.toNat (↑b1 : Int)))) = Int.toNat (Prod.fst (Prod.snd (pf (Int.toNat (↑b1 : Int))))) then Prod.fst (Prod.snd (Heat.cRun pf nf b1 (Int.toNat (Prod.fst (Prod.snd (pf (Int.toNat (↑b1 : Int)))))))) else Prod.fst (Prod.snd (Heat.cRun pf nf b1 (Int.toNat (Prod.fst (pf
      (Int.toNat (↑b1 : Int))))))) else if i3 = Int.toNat (Prod.fst (Prod.snd (pf (Int.toNat (↑b1 : Int))))) then Prod.fst (Prod.snd (Heat.cRun pf nf b1 (Int.toNat (Prod.fst (Prod.snd (pf (Int.toNat (↑b1 : Int)))))))) else Prod.fst (Prod.snd (Heat.cRun pf nf b1 i3))) = Prod.fst (Prod.snd (Heat.cRun pf nf x2 i3))) ∧ ((hb = hb ∧ ho = ho ∧ hez = hez ∧ hm ≤ hm ∧ hm ≤ hcap ∧ hcap ≤ hcap) ∧ ∀ (i4 : Nat), i4 <
      hm → Prod.fst (hf i4) = Prod.fst (hf i4) ∧ Prod.fst (Prod.snd (hf i4)) = Prod.fst (Prod.snd (hf i4)) ∧ Prod.fst (Prod.snd (Prod.snd (hf i4))) = Prod.fst (Prod.snd (Prod.snd (hf i4))) ∧ Prod.fst (Prod.snd (Prod.snd (Prod.snd (hf i4)))) = Prod.fst (Prod.snd (Prod.snd (Prod.snd (hf i4)))) ∧ Prod.fst (Prod.snd (Prod.snd (Prod.snd (Prod.snd (hf i4))))) = Prod.fst (Prod.snd (Prod.snd (Prod.snd (Prod.snd
      (hf i4)))))) ∧ x2 ≤ pn ∧ pn - x2 < pn - b1) ∧ (Decidable.decide (v4 < (0 : Int)) = Bool.false → (nb = nb ∧ no = no) ∧ Int.toNat (Prod.fst (pf (Int.toNat (↑b1 : Int)))) < nm ∧ ∀ (v6 : Int), v6 = Go.IntKind.wrap Go.IntKind.i64 (v4 * Prod.fst (Prod.snd (Heat.cRun pf nf b1 (Int.toNat (Prod.fst (pf (Int.toNat (↑b1 : Int)))))))) → (nb = nb ∧ no = no) ∧ Int.toNat (Prod.fst (Prod.snd (pf (Int.toNat (↑b1 :
      Int))))) < nm ∧ ∀ (v7 : Int), v7 = Go.IntKind.wrap Go.IntKind.i64 (v6 * Prod.fst (Prod.snd (Heat.cRun pf nf b1 (Int.toNat (Prod.fst (Prod.snd (pf (Int.toNat (↑b1 : Int))))))))) → (nb = nb ∧ no = no) ∧ Int.toNat (Prod.fst (pf (Int.toNat (↑b1 : Int)))) < nm ∧ (nb = nb ∧ no = no) ∧ Int.toNat (Prod.fst (Prod.snd (pf (Int.toNat (↑b1 : Int))))) < nm ∧ ∀ (v8 : Int), v8 = Go.IntKind.wrap Go.IntKind.i64
      (Prod.fst (Prod.snd (Heat.cRun pf nf b1 (Int.toNat (Prod.fst (pf (Int.toNat (↑b1 : Int))))))) + Prod.fst (Prod.snd (Heat.cRun pf nf b1 (Int.toNat (Prod.fst (Prod.snd (pf (Int.toNat (↑b1 : Int))))))))) → ∀ (v9 : Int), v9 = Go.IntKind.wrap Go.IntKind.i64 ((1000 : Int) * v8) → v9 ≠ (0 : Int) ∧ ∀ (v10 : Int), v10 = Go.IntKind.wrap Go.IntKind.i64 (Int.tdiv v7 v9) → (b2 = b2 ∧ (0 : Nat) = (0 : Nat)) ∧ ∀
      (v11 : Int), v11 = Go.IntKind.wrap Go.IntKind.i64 (Prod.fst (Prod.snd (Prod.snd (pf (Int.toNat (↑b1 : Int))))) * v4) → (1000 : Int) ≠ (0 : Int) ∧ ∀ (v12 : Int), v12 = Go.IntKind.wrap Go.IntKind.i64 (Int.tdiv v11 (1000 : Int)) → (nb = nb ∧ no = no) ∧ Int.toNat (Prod.fst (pf (Int.toNat (↑b1 : Int)))) < nm ∧ ∀ (v13 : Int), (v13 = if Prod.fst (Heat.cRun pf nf b1 (Int.toNat (Prod.fst (pf (Int.toNat (↑b1
      : Int)))))) < if v10 < v12 then v10 else v12 then Prod.fst (Heat.cRun pf nf b1 (Int.toNat (Prod.fst (pf (Int.toNat (↑b1 : Int)))))) else if v10 < v12 then v10 else v12) → (nb = nb ∧ no = no) ∧ Int.toNat (Prod.fst (pf (Int.toNat (↑b1 : Int)))) < nm ∧ ∀ (v14 : Int), v14 = Go.IntKind.wrap Go.IntKind.i64 (Prod.fst (Heat.cRun pf nf b1 (Int.toNat (Prod.fst (pf (Int.toNat (↑b1 : Int)))))) - v13) → (nb =
      nb ∧ no = no) ∧ Int.toNat (Prod.fst (pf (Int.toNat (↑b1 : Int)))) < nm ∧ (nb = nb ∧ no = no) ∧ Int.toNat (Prod.fst (Prod.snd (pf (Int.toNat (↑b1 : Int))))) < nm ∧ ∀ (v15 : Int), v15 = Go.IntKind.wrap Go.IntKind.i64 ((if Int.toNat (Prod.fst (Prod.snd (pf (Int.toNat (↑b1 : Int))))) = Int.toNat (Prod.fst (pf (Int.toNat (↑b1 : Int)))) then v14 else Prod.fst (Heat.cRun pf nf b1 (Int.toNat (Prod.fst
      (Prod.snd (pf (Int.toNat (↑b1 : Int)))))))) + v13) → (nb = nb ∧ no = no) ∧ Int.toNat (Prod.fst (Prod.snd (pf (Int.toNat (↑b1 : Int))))) < nm ∧ ∀ (v16 : Int), v16 = Go.IntKind.wrap Go.IntKind.i64 ((↑b1 : Int) + (1 : Int)) → ∃ (x2 : Nat), v16 = (↑x2 : Int) ∧ ((b = b ∧ o = o ∧ Bool.false = Bool.false ∧ (1 : Nat) ≤ (1 : Nat) ∧ (1 : Nat) ≤ (1 : Nat) ∧ (1 : Nat) ≤ (1 : Nat)) ∧ ((nb = nb ∧ no = no ∧ (0 :
      Nat) = (0 : Nat) ∧ nn = nn ∧ nc = nc ∧ nz = nz) ∧ (pb = pb ∧ po = po ∧ (0 : Nat) = (0 : Nat) ∧ pn = pn ∧ pc = pc ∧ pz = pz) ∧ (hb = hb ∧ ho = ho ∧ (0 : Nat) = (0 : Nat) ∧ hn = hn ∧ hc = hc ∧ hz = hz) ∧ rb = rb ∧ ro = ro ∧ (0 : Nat) = (0 : Nat) ∧ rn = rn ∧ rc = rc ∧ rz = rz) ∧ (ib = ib ∧ io = io ∧ (0 : Nat) = (0 : Nat) ∧ inn = inn ∧ ic = ic ∧ iz = iz) ∧ pw = pw ∧ fi = fi ∧ fh = fh ∧ fo = fo) ∧ ((nb
      = nb ∧ no = no ∧ nez = nez ∧ nm ≤ nm ∧ nm ≤ ncap ∧ ncap ≤ ncap) ∧ ∀ (i3 : Nat), i3 < nm → (if i3 = Int.toNat (Prod.fst (Prod.snd (pf (Int.toNat (↑b1 : Int))))) then v15 else if i3 = Int.toNat (Prod.fst (pf (Int.toNat (↑b1 : Int)))) then v14 else Prod.fst (Heat.cRun pf nf b1 i3)) = Prod.fst (Heat.cRun pf nf x2 i3) ∧ (if i3 = Int.toNat (Prod.fst (Prod.snd (pf (Int.toNat (↑b1 : Int))))) then if
      Int.toNat (Prod.fst (Prod.snd (pf (Int.toNat (↑b1 : Int))))) = Int.toNat (Prod.fst (pf (Int.toNat (↑b1 : Int)))) then Prod.fst (Prod.snd (Heat.cRun pf nf b1 (Int.toNat (Prod.fst (pf (Int.toNat (↑b1 : Int))))))) else Prod.fst (Prod.snd (Heat.cRun pf nf b1 (Int.toNat (Prod.fst (Prod.snd (pf (Int.toNat (↑b1 : Int)))))))) else if i3 = Int.toNat (Prod.fst (pf (Int.toNat (↑b1 : Int)))) then Prod.fst
      (Prod.snd (Heat.cRun pf nf b1 (Int.toNat (Prod.fst (pf (Int.toNat (↑b1 : Int))))))) else Prod.fst (Prod.snd (Heat.cRun pf nf b1 i3))) = Prod.fst (Prod.snd (Heat.cRun pf nf x2 i3))) ∧ ((hb = hb ∧ ho = ho ∧ hez = hez ∧ hm ≤ hm ∧ hm ≤ hcap ∧ hcap ≤ hcap) ∧ ∀ (i4 : Nat), i4 < hm → Prod.fst (hf i4) = Prod.fst (hf i4) ∧ Prod.fst (Prod.snd (hf i4)) = Prod.fst (Prod.snd (hf i4)) ∧ Prod.fst (Prod.snd
      (Prod.snd (hf i4))) = Prod.fst (Prod.snd (Prod.snd (hf i4))) ∧ Prod.fst (Prod.snd (Prod.snd (Prod.snd (hf i4)))) = Prod.fst (Prod.snd (Prod.snd (Prod.snd (hf i4)))) ∧ Prod.fst (Prod.snd (Prod.snd (Prod.snd (Prod.snd (hf i4))))) = Prod.fst (Prod.snd (Prod.snd (Prod.snd (Prod.snd (hf i4)))))) ∧ x2 ≤ pn ∧ pn - x2 < pn - b1)) ∧ (Decidable.decide ((↑b1 : Int) < v1) = Bool.false → ∃ (x2 : Unit), True ∧
      ((b = b ∧ o = o ∧ Bool.false = Bool.false ∧ (1 : Nat) ≤ (1 : Nat) ∧ (1 : Nat) ≤ (1 : Nat) ∧ (1 : Nat) ≤ (1 : Nat)) ∧ ((nb = nb ∧ no = no ∧ (0 : Nat) = (0 : Nat) ∧ nn = nn ∧ nc = nc ∧ nz = nz) ∧ (pb = pb ∧ po = po ∧ (0 : Nat) = (0 : Nat) ∧ pn = pn ∧ pc = pc ∧ pz = pz) ∧ (hb = hb ∧ ho = ho ∧ (0 : Nat) = (0 : Nat) ∧ hn = hn ∧ hc = hc ∧ hz = hz) ∧ rb = rb ∧ ro = ro ∧ (0 : Nat) = (0 : Nat) ∧ rn = rn ∧
      rc = rc ∧ rz = rz) ∧ (ib = ib ∧ io = io ∧ (0 : Nat) = (0 : Nat) ∧ inn = inn ∧ ic = ic ∧ iz = iz) ∧ pw = pw ∧ fi = fi ∧ fh = fh ∧ fo = fo) ∧ ((nb = nb ∧ no = no ∧ nez = nez ∧ nm ≤ nm ∧ nm ≤ ncap ∧ ncap ≤ ncap) ∧ ∀ (i3 : Nat), i3 < nm → Prod.fst (Heat.cRun pf nf b1 i3) = Prod.fst (Heat.cRun pf nf pn i3) ∧ Prod.fst (Prod.snd (Heat.cRun pf nf b1 i3)) = Prod.fst (Prod.snd (Heat.cRun pf nf pn i3))) ∧
      ((hb = hb ∧ ho = ho ∧ hez = hez ∧ hm ≤ hm ∧ hm ≤ hcap ∧ hcap ≤ hcap) ∧ ∀ (i4 : Nat), i4 < hm → Prod.fst (hf i4) = Prod.fst (hf i4) ∧ Prod.fst (Prod.snd (hf i4)) = Prod.fst (Prod.snd (hf i4)) ∧ Prod.fst (Prod.snd (Prod.snd (hf i4))) = Prod.fst (Prod.snd (Prod.snd (hf i4))) ∧ Prod.fst (Prod.snd (Prod.snd (Prod.snd (hf i4)))) = Prod.fst (Prod.snd (Prod.snd (Prod.snd (hf i4)))) ∧ Prod.fst (Prod.snd
      (Prod.snd (Prod.snd (Prod.snd (hf i4))))) = Prod.fst (Prod.snd (Prod.snd (Prod.snd (Prod.snd (hf i4)))))) ∧ True)) (by kernel_rfl) ?_
  simp
  obtain ⟨p1, p2, p3, p4, p5, p6, p7, p8, p9, p10, hcap1, hcap2, _⟩ := hp
  dsimp only at p1 p2 p3 p4 p5 p6 p7 p8 p9 p10 hcap1 hcap2
  have hstat := cRun_stat pf nf
  refine ⟨⟨0, rfl, ⟨hcap1, fun _ _ => ⟨rfl, rfl⟩⟩, hcap2, Nat.zero_le _⟩, fun k hk => ⟨fun hlt => ?_, fun hge => ?_⟩⟩
  · have hs : cRun pf nf (k + 1) = condRound pf (cRun pf nf k) k := rfl
    have hst := hstat k
    have hw64 : IntKind.i64.wrap ((k : Int) + 1) = ((k + 1 : Nat) : Int) := l_succ (by omega)
    obtain ⟨⟨q1, q2⟩, q3, q4⟩ := p6 k hlt
    have c1 := p7 (pf k).1.toNat (by omega)
    have c2 := p7 (pf k).2.1.toNat (by omega)
    rw [← hst] at c1 c2
    have hd1 : IntKind.i64.wrap (1000 * IntKind.i64.wrap ((cRun pf nf k (pf k).1.toNat).2.1 + (cRun pf nf k (pf k).2.1.toNat).2.1)) ≠ 0 := by
      have := w64_id (x := (cRun pf nf k (pf k).1.toNat).2.1 + (cRun pf nf k (pf k).2.1.toNat).2.1) (by omega) (by omega)
      rw [this, w64_id (by omega) (by omega)]
      omega
    have hd2 : IntKind.i64.wrap (1000 * IntKind.i64.wrap ((cRun pf nf k (pf k).2.1.toNat).2.1 + (cRun pf nf k (pf k).1.toNat).2.1)) ≠ 0 := by
      rw [Int.add_comm]; exact hd1
    generalize cRun pf nf k = s at *
    refine ⟨by omega, by omega, by omega, by omega, by omega, by omega, by omega, by omega, by omega, fun hd => ⟨by omega, by omega, by omega, by omega, hd2, by omega, by omega, k + 1, hw64, ⟨hcap1, fun i hi => ⟨?_, ?_⟩⟩, hcap2, by omega, by omega⟩, fun hd => ?_⟩
    · rw [hs, condRound]
      unfold w64
      rw [if_pos hd]
      rfl
    · rw [hs, condRound_stat]; grind
    · refine ⟨by omega, by omega, by omega, by omega, hd1, by omega, by omega, k + 1, hw64, ⟨hcap1, fun i hi => ⟨?_, ?_⟩⟩, hcap2, by omega, by omega⟩
      · rw [hs, condRound]
        unfold w64
        rw [if_neg (Int.not_lt.2 hd)]
        rfl
      · rw [hs, condRound_stat]; grind
  · obtain rfl : k = pn := by omega
    simp [*]
end Heat
