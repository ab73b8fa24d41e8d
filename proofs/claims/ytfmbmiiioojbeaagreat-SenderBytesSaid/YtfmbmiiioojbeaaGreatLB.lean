/-
  OWN WORK. Contracts that say what memory they are handed, by tags.
-/
import Derived.Test.YtfmbmiiioojbeaaGreatEngQ
namespace Eng
open Go
set_option linter.unusedVariables false
section
variable {P : Program}
/-- The memory handed over: A says which (tags), what stands there, what holds; B: what stands there behind the call, the result, what holds. -/
def bxC (A : LA) (Y : A.X → Type) (B : (x : A.X) → Y x → SV × Hp) (post : (x : A.X) → Y x → Prop) (args : List SV) (H : Hp) (nx : Nat) (K : SV → Hp → Nat → Prop) : Prop :=
  match Nat.beq args.length A.slots.length with
  | true => ∃ x : A.X, meets A (argFr 0 args) (Hp.only A.tags H) x (A.inv x ∧ ∀ y : Y x, post x y → K (B x y).1 (Hp.app (B x y).2 (Hp.minus A.tags H)) nx)
  | false => False
/-- What the run must end in. -/
def bxEnd (A : LA) (Y : A.X → Type) (B : (x : A.X) → Y x → SV × Hp) (post : (x : A.X) → Y x → Prop) (x : A.X) (r : SV) (H : Hp) (_ : Nat) : Prop :=
  ∃ y : Y x, meets ⟨0, Y x, [0], fun y => [(B x y).1], A.tags, fun y => (B x y).2, fun _ => True, fun _ => 0⟩ [⟨0, [], r⟩] H y (post x y)
theorem argFr_has (args : List SV) (hw : ∀ v ∈ args, v.wf) (N : Nat) (hN : args.length ≤ N) : Has N (argFr 0 args) { tmps := (SV.denL args).toArray ++ Array.replicate (N - (SV.denL args).toArray.size) undef, defers := [] } := by
  have hlen : (SV.denL args).length = args.length := by rw [denL_eq]; simp
  refine ⟨by simp [hlen]; omega, fun s e he => ?_⟩
  have key : ∀ (l : List SV) (k : Nat) (s : Nat) (e : FE), (argFr k l).find s = some e → e.gd = [] ∧ k ≤ s ∧ ∃ v, l[s - k]? = some v ∧ e.v = v := by
    intro l
    induction l with
    | nil => intro k s e h; simp [argFr, Fr.find] at h
    | cons v r ih =>
      intro k s e h
      simp only [argFr, Fr.find_cons] at h
      split at h
      · rename_i hs
        injection h with h
        subst h
        have e1 : k = s := by simpa using hs
        subst e1
        exact ⟨rfl, Nat.le_refl _, v, by simp, rfl⟩
      · obtain ⟨h1, h2, v', h3, h4⟩ := ih (k + 1) s e h
        refine ⟨h1, by omega, v', ?_, h4⟩
        rw [show s - k = (s - (k + 1)) + 1 from by omega]
        simpa using h3
  obtain ⟨h1, _, v, h3, h4⟩ := key args 0 s e he
  rw [h1, h4]
  simp only [Nat.sub_zero] at h3
  refine ⟨?_, fun _ => hw v (List.mem_of_getElem? h3), trivial⟩
  have hlt : s < args.length := (List.getElem?_eq_some_iff.1 h3).1
  rw [Array.getElem?_append_left (by simp [hlen]; exact hlt), List.getElem?_toArray]
  exact denL_mem h3
def rangeS : Nat → Nat → List Nat
  | _, 0 => []
  | k, n + 1 => k :: rangeS (k + 1) n
theorem zip_range : ∀ (vs : List SV) (k i : Nat) (v : SV), vs[i]? = some v → (zipFr (rangeS k vs.length) vs).find (k + i) = some ⟨k + i, [], v⟩
  | [], _, _, _, h => by cases h
  | u :: r, k, 0, v, h => by
    cases h
    simp [rangeS, zipFr, Fr.find]
  | u :: r, k, i + 1, v, h => by
    have := zip_range r (k + 1) i v h
    have hne : Nat.beq k (k + (i + 1)) = false := by
      cases e : Nat.beq k (k + (i + 1)) with
      | false => rfl
      | true => have := beqN e; omega
    simp only [rangeS, List.length_cons, zipFr, Fr.find, hne]
    rw [show k + (i + 1) = k + 1 + i by omega]
    exact this
theorem bx_run {A : LA} {Y : A.X → Type} {B : (x : A.X) → Y x → SV × Hp} {post : (x : A.X) → Y x → Prop} {f : FuncId} {fn : Func} {c : Code} {E : A.X → Env} (hE : ∀ x, EnvOk P (E x)) (hf : P.funcs[f]? = some fn) (hb : fn.body = some c) (hn : (fn.name == "runtime.NumGoroutine") = false)
    (m : Nat) (hs : A.slots = rangeS 0 m) (hm : ∀ x, (A.vals x).length = m) (hN : m ≤ fn.ntmps) (An : A.X → List An) (nx0 : Nat)
    (h : ∀ x, A.inv x → (∀ v ∈ A.vals x, v.wf) → exCode (E x) fn.ntmps (An x) c (argFr 0 (A.vals x)) (A.ents x) nx0 (atEnd (E x) fn.results.toList (bxEnd A Y B post x))) : EcOk P f (bxC A Y B post) := by
  intro args H nx K hc hw
  unfold bxC at hc
  have hbl : Nat.beq args.length A.slots.length = true := by
    cases e : Nat.beq args.length A.slots.length with
    | true => rfl
    | false => rw [e] at hc; exact hc.elim
  rw [hbl] at hc
  dsimp only at hc
  have hbl : args.length = m := by
    have := beqN hbl
    have hr : ∀ k n, (rangeS k n).length = n := fun k n => by
      induction n generalizing k with
      | zero => rfl
      | succ n ih => simp [rangeS, ih]
    rw [this, hs, hr]
  obtain ⟨x, hx⟩ := hc
  refine ⟨goFn_of hf (by rw [hb]; rfl) hn, fun C w hS => ?_⟩
  have hS0 := hS.split A.tags
  have hA := argFr_has args hw args.length (Nat.le_refl _)
  obtain ⟨⟨k1, k2⟩, k3, k4, k5⟩ := meets_sound hA hS0.frame_in.left hx
  have hlen : (SV.denL args).length = args.length := by rw [denL_eq]; simp
  have hvals : ∀ (i : Nat) (v : SV), (A.vals x)[i]? = some v → ∃ u : SV, args[i]? = some u ∧ u.den = v.den ∧ v.wf := fun i v hi => by
    obtain ⟨_, q2, q3⟩ := k3 i ⟨i, [], v⟩ (by
      have := zip_range (A.vals x) 0 i v hi
      rw [hm x, Nat.zero_add, ← hs] at this
      exact this)
    have hil : i < args.length := by
      have := (List.getElem?_eq_some_iff.1 hi).1
      rw [hm x] at this
      omega
    refine ⟨args[i], List.getElem?_eq_getElem hil, ?_, q3⟩
    have q4 : ((SV.denL args).toArray ++ Array.replicate (args.length - (SV.denL args).toArray.size) undef)[i]? = some (args[i]).den := by
      rw [Array.getElem?_append_left (by simp [hlen]; exact hil), List.getElem?_toArray]
      exact denL_mem (List.getElem?_eq_getElem hil)
    rw [q4] at q2
    injection q2
  have hden : SV.denL args = SV.denL (A.vals x) := by
    apply List.ext_getElem?
    intro i
    rw [denL_eq, denL_eq, List.getElem?_map, List.getElem?_map]
    cases hi : (A.vals x)[i]? with
    | none =>
      have h1 : m ≤ i := by rw [← hm x]; exact List.getElem?_eq_none_iff.1 hi
      rw [List.getElem?_eq_none (by omega)]
    | some v =>
      obtain ⟨u, u1, u2, _⟩ := hvals i v hi
      rw [u1]
      simp [u2]
  have hvw : ∀ v ∈ A.vals x, v.wf := fun v hv => by
    obtain ⟨i, hi⟩ := List.getElem?_of_mem hv
    exact (hvals i v hi).choose_spec.2.2
  rw [hden]
  refine (calls_of_ex (hE x) hf hb (An x) (A.vals x) hvw (by rw [hm x]; exact hN) (A.ents x) nx0 _ (h x k1 hvw) k4).mono ?_
  rintro e w' ⟨r, H', nx', ⟨y, hy⟩, r2, rfl, r4⟩
  have hA2 : Has 1 [⟨0, [], r⟩] { tmps := #[r.den], defers := [] } := by
    refine ⟨rfl, fun s e he => ?_⟩
    simp only [Fr.find] at he
    split at he
    · rename_i hs0
      injection he with he
      subst he
      have e1 : 0 = s := by simpa using hs0
      subst e1
      exact ⟨rfl, fun _ => r2, trivial⟩
    · cases he
  obtain ⟨p1, p2, p3, p4⟩ := meets_sound hA2 r4 hy
  obtain ⟨_, q2, q3⟩ := p2 0 ⟨0, [], (B x y).1⟩ rfl
  have hu := hS0.unframe p3
  rw [unfr_all p4] at hu
  have q2 : r.den = (B x y).1.den := by simpa using q2
  exact ⟨(B x y).1, _, _, k2 y p1, q3, by rw [q2], hu⟩
end
end Eng
