/-
  OWN WORK. THE ENGINE, part M: contracts with effects: a callee run in place; a callee that changes what it is handed, and hands back new memory.
-/
import Derived.Test.YtnibcchhhebfaaaGreatDoorEngL
import Derived.Laws.Cover3
import Derived.Laws.Pointers
namespace Eng
open Go
set_option linter.unusedVariables false
set_option linter.unusedSimpArgs false

section
variable {P : Program} {E : Env} {H : Hp} {C : Ctx} {w w' : World}

/-- The callee's body is run where it is called. -/
def ecIn (E : Env) (fn : Func) (c : Code) (A : List SV → Hp → List An) : List SV → Hp → Nat → (SV → Hp → Nat → Prop) → Prop := fun args H nx K => match Nat.ble args.length fn.ntmps with
  | true => exCode E fn.ntmps (A args H) c (argFr 0 args) H nx (atEnd E fn.results.toList K)
  | false => False
theorem ecIn_ok {f : FuncId} {fn : Func} {c : Code} {A : List SV → Hp → List An} (hE : EnvOk P E) (hf : P.funcs[f]? = some fn) (hb : fn.body = some c) (hn : (fn.name == "runtime.NumGoroutine") = false) : EcOk P f (ecIn E fn c A) := by
  intro args H nx K h hw
  refine ⟨goFn_of hf (by rw [hb]; rfl) hn, fun C w hS => ?_⟩
  unfold ecIn at h
  split at h
  · rename_i hl
    exact calls_of_ex hE hf hb (A args H) args hw (Nat.le_of_ble_eq_true hl) H nx K h hS
  · exact h.elim

def bodyOf (fn : Func) : Code := match fn.body with
  | some c => c
  | none => .skip
/-- A function that is run in place. -/
def Env.inl (E : Env) (f : FuncId) (fn : Func) (A : List SV → Hp → List An) : Env := E.addE f (ecIn E fn (bodyOf fn) A)
theorem EnvOk.inl {E : Env} (h : EnvOk P E) {f : FuncId} {fn : Func} (A : List SV → Hp → List An) (hf : P.funcs[f]? = some fn) (hb : (match fn.body with | some _ => true | none => false) = true) (hn : (fn.name == "runtime.NumGoroutine") = false) : EnvOk P (E.inl f fn A) := by
  refine h.addE (ecIn_ok h hf ?_ hn)
  unfold bodyOf
  split at hb
  · rename_i c hc; rw [hc]
  · cases hb

/-! ### other names for tags -/
mutual
def SV.rt (τ : Nat → Nat) : SV → SV
  | .ptr g b off p => .ptr (τ g) b off p
  | .slice g b off p wd i n c z => .slice (τ g) b off p wd i n c z
  | .fn f x y => .fn f (SV.rtL τ x) (SV.rtL τ y)
  | .agg l => .agg (SV.rtL τ l)
  | .arr n wd get => .arr n wd fun k => SV.rt τ (get k)
  | .tup l => .tup (SV.rtL τ l)
  | .iface t v => .iface t (SV.rt τ v)
  | .map g b i => .map (τ g) b i
  | .mobj h g => .mobj h fun x => SV.rt τ (g x)
  | .int k x => .int k x
  | .bool b => .bool b
  | .str l => .str l
  | .val v => .val v
  | .wsl g b off p wd n c z sp => .wsl (τ g) b off p wd n c z sp
def SV.rtL (τ : Nat → Nat) : List SV → List SV
  | [] => []
  | v :: r => SV.rt τ v :: SV.rtL τ r
end
mutual
theorem rt_eq (τ : Nat → Nat) : ∀ v : SV, (v.rt τ).den = v.den ∧ (v.rt τ).flat = v.flat ∧ (v.rt τ).sz = v.sz ∧ (v.rt τ).nt = v.nt ∧ (v.wf → (v.rt τ).wf)
  | .ptr g b off p => ⟨rfl, rfl, rfl, rfl, fun h => h⟩
  | .slice g b off p wd i n c z => ⟨rfl, rfl, rfl, rfl, fun h => h⟩
  | .fn f x y => by
    obtain ⟨a1, _, _, a4, _⟩ := rtL_eq τ x
    obtain ⟨b1, _, _, b4, _⟩ := rtL_eq τ y
    exact ⟨by simp only [SV.rt, SV.den, a1, b1], by simp only [SV.rt, SV.flat, a1, b1], rfl, rfl, fun h => ⟨a4 h.1, b4 h.2⟩⟩
  | .agg l => by
    obtain ⟨a1, a2, a3, _, a5⟩ := rtL_eq τ l
    exact ⟨by simp only [SV.rt, SV.den, a2], by simp only [SV.rt, SV.flat, a2], by simp only [SV.rt, SV.sz, a3], rfl, a5⟩
  | .arr n wd get => by
    have h := fun k => rt_eq τ (get k)
    refine ⟨?_, ?_, rfl, rfl, fun hw i hi => ?_⟩
    · simp only [SV.rt, SV.den, (h _).2.1]
    · simp only [SV.rt, SV.flat, (h _).2.1]
    · obtain ⟨w1, w2, w3⟩ := hw i hi
      exact ⟨(h i).2.2.2.2 w1, by rw [(h i).2.2.1]; exact w2, by rw [(h i).2.2.2.1]; exact w3⟩
  | .tup l => by
    obtain ⟨a1, _, _, a4, _⟩ := rtL_eq τ l
    exact ⟨by simp only [SV.rt, SV.den, a1], by simp only [SV.rt, SV.flat, a1], rfl, rfl, a4⟩
  | .iface t v => by
    obtain ⟨a1, _, _, _, a5⟩ := rt_eq τ v
    exact ⟨by simp only [SV.rt, SV.den, a1], by simp only [SV.rt, SV.flat, a1], rfl, rfl, a5⟩
  | .map g b i => ⟨rfl, rfl, rfl, rfl, fun h => h⟩
  | .mobj h g => ⟨rfl, rfl, rfl, rfl, fun h => h⟩
  | .int k x => ⟨rfl, rfl, rfl, rfl, fun h => h⟩
  | .bool b => ⟨rfl, rfl, rfl, rfl, fun h => h⟩
  | .str l => ⟨rfl, rfl, rfl, rfl, fun h => h⟩
  | .val v => ⟨rfl, rfl, rfl, rfl, fun h => h⟩
  | .wsl g b off p wd n c z sp => ⟨rfl, rfl, rfl, rfl, fun h => h⟩
theorem rtL_eq (τ : Nat → Nat) : ∀ l : List SV, SV.denL (SV.rtL τ l) = SV.denL l ∧ SV.flatL (SV.rtL τ l) = SV.flatL l ∧ SV.sz.szL (SV.rtL τ l) = SV.sz.szL l ∧ (SV.wfL l → SV.wfL (SV.rtL τ l)) ∧ (SV.wfA l → SV.wfA (SV.rtL τ l))
  | [] => ⟨rfl, rfl, rfl, fun h => h, fun h => h⟩
  | v :: r => by
    obtain ⟨a1, a2, a3, a4, a5⟩ := rt_eq τ v
    obtain ⟨b1, b2, b3, b4, b5⟩ := rtL_eq τ r
    exact ⟨by simp only [SV.rtL, SV.denL, a1, b1], by simp only [SV.rtL, SV.flatL, a2, b2], by simp only [SV.rtL, SV.sz.szL, a3, b3], fun h => ⟨a5 h.1, b4 h.2⟩, fun h => ⟨a5 h.1, by rw [a4]; exact h.2.1, b5 h.2.2⟩⟩
end
def Ent.rt (τ : Nat → Nat) (e : Ent) : Ent := match e with
  | ⟨g, b, off, wd, n, get, own, one, cap, t, z, fam⟩ => ⟨τ g, b, off, wd, n, fun k => (get k).rt τ, own, one, cap, t, z, fam⟩
def Hp.rt (τ : Nat → Nat) : Hp → Hp
  | [] => []
  | e :: r => e.rt τ :: Hp.rt τ r
theorem hprt_eq (τ : Nat → Nat) : ∀ H : Hp, Hp.rt τ H = H.map (Ent.rt τ)
  | [] => rfl
  | e :: r => by rw [Hp.rt, hprt_eq τ r]; rfl
theorem rt_isM (τ : Nat → Nat) (v : SV) : (v.rt τ).isM = v.isM := by cases v <;> rfl
theorem rt_occ (τ : Nat → Nat) (v : SV) : (v.rt τ).occ ↔ v.occ := by
  unfold SV.occ
  rw [rt_isM, (rt_eq τ v).2.2.1]
theorem rt_ent (τ : Nat → Nat) {e : Ent} (h : EntOk C w e) : EntOk C w (e.rt τ) := by
  obtain ⟨g, b, off, wd, n, get, own, one, cap, t, z, fam⟩ := e
  refine ⟨h.one, h.ro, h.z, h.ow, fun f hf i hi hs => h.fam f hf i hi (by dsimp only [Ent.rt] at hs; rw [(rt_eq τ (get i)).2.2.1] at hs; exact hs), fun f hf i hi h0 g0 hm => ?_, fun i hi => ?_⟩
  · have hm' : (get i).rt τ = .mobj h0 g0 := hm
    have hM : (get i).isM = true := by rw [← rt_isM τ, hm']; rfl
    obtain ⟨h1, g1, he⟩ := isM_eq hM
    obtain ⟨q1, q2, q3⟩ := h.mob f hf i hi h1 g1 he
    rw [he] at hm'
    simp only [SV.rt, SV.mobj.injEq] at hm'
    obtain ⟨rfl, rfl⟩ := hm'
    refine ⟨q1, q2, q3.eqv (fun _ => rfl) fun x _ => ?_⟩
    have hq := rt_eq τ (g1 x)
    exact ⟨hq.1.symm, hq.2.1.symm, hq.2.2.1.symm, hq.2.2.2.2⟩
  obtain ⟨r1, r2, r3⟩ := h.row i hi
  have hq := rt_eq τ (get i)
  refine ⟨r1.imp hq.2.2.2.2 (fun q => (rt_isM τ (get i)).trans q), by
    cases fam with
    | none => exact hq.2.2.2.1.trans r2
    | some f => exact r2.imp hq.2.2.2.1.trans (rt_isM τ (get i)).trans, ?_⟩
  have hh : ∀ b x, Holds w b x (get i) → Holds w b x ((get i).rt τ) := fun b x hh k hk => by rw [hq.2.1]; exact hh k (by rw [← hq.2.2.1]; exact hk)
  cases fam with
  | none => exact ⟨by dsimp only [Ent.rt]; rw [hq.2.2.1]; exact r3.1, hh _ _ r3.2⟩
  | some f => exact hh _ _ r3
theorem rt_blk (τ : Nat → Nat) (e : Ent) (k : Nat) : (e.rt τ).blk k ↔ e.blk k := by
  obtain ⟨g, b, off, wd, n, get, own, one, cap, t, z, fam⟩ := e
  cases fam with
  | none => exact Iff.rfl
  | some f =>
    unfold Ent.blk
    dsimp only [Ent.rt]
    exact ⟨fun ⟨i, h1, h2, h3⟩ => ⟨i, h1, (rt_occ τ (get i)).1 h2, h3⟩, fun ⟨i, h1, h2, h3⟩ => ⟨i, h1, (rt_occ τ (get i)).2 h2, h3⟩⟩
theorem rt_sat (τ : Nat → Nat) {D : Hp} (h : Sat C D w) : Sat C (Hp.rt τ D) w := by
  rw [hprt_eq]
  refine ⟨h.kept, fun e he => ?_, List.pairwise_map.2 (h.apart.imp fun {a b} q => ?_)⟩
  · obtain ⟨x, hx, rfl⟩ := List.mem_map.1 he
    exact rt_ent τ (h.ents x hx)
  · intro a1 a2 b1 b2 k hk hk'
    rw [rt_blk] at hk hk'
    refine q ?_ ?_ ?_ ?_ k hk hk'
    · cases a; exact a1
    · cases a; exact a2
    · cases b; exact b1
    · cases b; exact b2

/-! ### a callee that changes what it is handed -/
def lookN (c : Nat) : List (Nat × Nat) → Option Nat
  | [] => none
  | (a, b) :: r => match Nat.beq a c with
    | true => some b
    | false => lookN c r
/-- The caller's name of a tag. -/
def tau (M : List (Nat × Nat)) (base nx c : Nat) : Nat := match lookN c M with
  | some g => g
  | none => match Nat.blt c base with
    | true => c
    | false => match Nat.ble 900000 c with
      | true => c
      | false => nx + (c - base)
def sndL : List (Nat × Nat) → List Nat
  | [] => []
  | (_, b) :: r => b :: sndL r
theorem sndL_mem : ∀ {M : List (Nat × Nat)} {a b : Nat}, (a, b) ∈ M → memN b (sndL M) = true
  | (_, _) :: r, a, b, h => by
    rcases List.mem_cons.1 h with h | h
    · injection h with h1 h2
      subst h1 h2
      exact memN_cons.2 (.inl rfl)
    · exact memN_cons.2 (.inr (sndL_mem h))
/-- The tags are all different, and none of R is among them. -/
def apartB (R : List Nat) : List Nat → Bool
  | [] => true
  | g :: r => match memN g r with
    | true => false
    | false => match memN g R with
      | true => false
      | false => apartB R r
theorem apartB_R {R : List Nat} : ∀ {l : List Nat}, apartB R l = true → ∀ g ∈ R, memN g l = false
  | [], _, g, _ => rfl
  | x :: l, h, g, hg => by
    simp only [apartB] at h
    split at h
    · cases h
    · split at h
      · cases h
      · rename_i h2
        have := apartB_R h g hg
        cases hm : memN g (x :: l) with
        | false => rfl
        | true =>
          rcases memN_cons.1 hm with hm | hm
          · subst hm; exact absurd rfl (memN_false R h2 g hg)
          · rw [this] at hm; cases hm
theorem apartB_inj {R : List Nat} : ∀ {M : List (Nat × Nat)}, apartB R (sndL M) = true → ∀ a a' b, (a, b) ∈ M → (a', b) ∈ M → a = a'
  | [], _, a, a', b, h, _ => by cases h
  | (x, y) :: r, hB, a, a', b, h, h' => by
    simp only [sndL, apartB] at hB
    split at hB
    · cases hB
    · rename_i h1
      split at hB
      · cases hB
      · rcases List.mem_cons.1 h with hx | hx <;> rcases List.mem_cons.1 h' with hy | hy
        · injection hx with h2 h3; injection hy with h4 h5; rw [h2, h4]
        · injection hx with h2 h3; subst h3; rw [sndL_mem hy] at h1; cases h1
        · injection hy with h2 h3; subst h3; rw [sndL_mem hx] at h1; cases h1
        · exact apartB_inj hB a a' b hx hy
theorem find_only {t : List Nat} : ∀ {H : Hp} {g : Nat} {e : Ent}, H.find g = some e → memN g t = true → e ∈ Hp.only t H
  | [], g, e, h, _ => by simp [Hp.find] at h
  | x :: r, g, e, h, hg => by
    have h1 := find_mem _ _ _ h
    rw [only_eq]
    exact List.mem_filter.2 ⟨h1.1, by rw [h1.2]; exact hg⟩
theorem find_minus {t : List Nat} {H : Hp} {g : Nat} {e : Ent} (h : H.find g = some e) (hg : memN g t = false) : e ∈ Hp.minus t H := by
  have h1 := find_mem _ _ _ h
  rw [minus_eq]
  exact List.mem_filter.2 ⟨h1.1, by rw [h1.2, hg]; rfl⟩
/-- No tag stands twice among the owned ones of a view. -/
def ownNodup : Hp → Prop := fun D => D.Pairwise fun e e' => e.own = true → e'.own = true → e.g ≠ e'.g
/-- The arguments' memory as the callee sees it. -/
theorem src_view {R : List Nat} {M : List (Nat × Nat)} {D : Hp} (hS : Sat C H w) (hB : apartB R (sndL M) = true) (hD : ∀ e ∈ D, Src H M R e) (hn : ownNodup D) : Sat (Fm w (Hp.only (sndL M) H)) D w := by
  have hf := (hS.split (sndL M)).frame_in
  have hent : ∀ e ∈ D, EntOk (Fm w (Hp.only (sndL M) H)) w e := fun e he => by
    rcases hD e he with ⟨_, g, en, hm, hen, _, _, _, h⟩ | ⟨_, ⟨g, en, hg, hen, h⟩ | h⟩
    · exact h _ _ (hf.ents en (by rw [app_eq]; exact List.mem_append_left _ (find_only hen (sndL_mem hm))))
    · refine h _ _ (hf.ents en.ro ?_)
      rw [app_eq, ro_eq]
      exact List.mem_append_right _ (List.mem_map.2 ⟨en, find_minus hen (apartB_R hB g hg), rfl⟩)
    · exact h _ _
  refine ⟨hf.kept, hent, List.Pairwise.imp_of_mem (fun {e e'} he he' q => ?_) hn⟩
  intro o1 z1 o2 z2
  have hne := q o1 o2
  rcases hD e he with ⟨_, g, en, hm, hen, eo, eb, ez, _⟩ | ⟨h, _⟩
  · rcases hD e' he' with ⟨_, g', en', hm', hen', eo', eb', ez', _⟩ | ⟨h, _⟩
    · have hgg : g ≠ g' := by
        rintro rfl
        exact hne (apartB_inj hB _ _ _ hm hm')
      have hg1 := (find_mem _ _ _ hen)
      have hg2 := (find_mem _ _ _ hen')
      have := pair_mem H hS.apart en hg1.1 en' hg2.1 (by rw [hg1.2, hg2.2]; exact hgg) (wr_iff.1 eo.1).1 (by rw [← ez]; exact z1) (wr_iff.1 eo'.1).1 (by rw [← ez']; exact z2)
      intro k hk hk'
      rw [blk_none eo.2, eb] at hk
      rw [blk_none eo'.2, eb'] at hk'
      exact this k ((blk_none (wr_iff.1 eo.1).2).2 hk) ((blk_none (wr_iff.1 eo'.1).2).2 hk')
    · rw [o2] at h; cases h
  · rw [o1] at h; cases h
/-- What a run ends with, as a contract says it: the result, the memory. -/
def ends (r : SV) (H' : Hp) (res : SV) (ents : Hp) (ren : List (Nat × Nat)) (k : Prop) : Prop :=
  eqv r res ∧ (match nodupG (pairSV r res ++ ren) ents [] with
    | true => (match famOk ents [] with
      | true => hpAgrees H' (pairSV r res ++ ren) (claims (pairSV r res ++ ren) ents) ents k
      | false => False)
    | false => False)
/-- A contract: the data x of the arguments, what is asked, what holds of the outcome y, the result, the memory (what was handed over and may be changed; what is new: tags from L.tags on). -/
def ecC {α Y : Type} (L : ArgL α) (pre : α → List Prop) (post : α → Y → Prop) (res : α → Y → SV) (ents : α → Y → Hp) (k : Nat) : List SV → Hp → Nat → (SV → Hp → Nat → Prop) → Prop := fun args H nx K =>
  match L.get args H with
  | some (ps, x) => match apartB (L.rt args H) (sndL (L.om 0 args H)) with
    | true => allL ps (∀ x', x' = x → allL (pOb (pre x')) (∀ y, post x' y → K ((res x' y).rt (tau (L.om 0 args H ++ L.rm 0 args H) L.tags nx)) (Hp.app (Hp.rt (tau (L.om 0 args H ++ L.rm 0 args H) L.tags nx) (ents x' y)) (Hp.minus (sndL (L.om 0 args H)) H)) (nx + k)))
    | false => False
  | none => False
theorem ecC_run {α Y : Type} {L : ArgL α} {pre : α → List Prop} {post : α → Y → Prop} {res : α → Y → SV} {ents : α → Y → Hp} {k : Nat} {f : FuncId} {fn : Func} {c : Code} {E : α → Env}
    (hE : ∀ x, EnvOk P (E x)) (hf : P.funcs[f]? = some fn) (hb : fn.body = some c) (hn : (fn.name == "runtime.NumGoroutine") = false) (ren : List (Nat × Nat))
    (A : α → List An) (hN : ∀ x, (L.svs 0 x).length ≤ fn.ntmps)
    (h : ∀ x, allT (pre x) → (∀ v ∈ L.svs 0 x, v.wf) → exCode (E x) fn.ntmps (A x) c (argFr 0 (L.svs 0 x)) (L.hp 0 x) L.tags (atEnd (E x) fn.results.toList fun r H' _ =>
      ∃ y, ends r H' (res x y) (ents x y) ren (post x y))) : EcOk P f (ecC L pre post res ents k) := by
  intro args H nx K hc hw
  refine ⟨goFn_of hf (by rw [hb]; rfl) hn, fun C w hS => ?_⟩
  unfold ecC at hc
  split at hc
  · rename_i qs x hx
    split at hc
    · rename_i hB
      rw [allL_iff] at hc
      obtain ⟨p1, hc⟩ := hc
      replace hc := hc x rfl
      rw [allL_iff] at hc
      obtain ⟨p2, hc⟩ := hc
      obtain ⟨d, _, _, g, e⟩ := L.ok args H qs x hx p1 hw ⟨C, w, hS⟩ 0
      have hS0 := src_view hS hB e ((L.tg 0 x).1.imp fun h _ _ => h)
      rw [← d]
      refine (calls_of_ex (hE x) hf hb (A x) _ g (hN x) _ L.tags _ (h x ((pOb_true _).1 p2) g) hS0).mono ?_
      rintro e w' ⟨r, H', nx', ⟨y, k1, k3⟩, k5, rfl, k6⟩
      split at k3
      · rename_i hnd
        split at k3
        case h_2 => exact k3.elim
        rename_i hfo
        obtain ⟨g1, g2, g3⟩ := hpAgrees_sat k6 k3 hnd hfo
        have hq := eqv_sound _ _ k1
        have hr := rt_eq (tau (L.om 0 args H ++ L.rm 0 args H) L.tags nx) (res x y)
        have hS1 := (hS.split (sndL (L.om 0 args H))).unframe (rt_sat (tau (L.om 0 args H ++ L.rm 0 args H) L.tags nx) g1)
        rw [unfr_all (fun e he => by
          rw [hprt_eq] at he
          obtain ⟨u, hu, rfl⟩ := List.mem_map.1 he
          have := g2 u hu
          cases u; exact this)] at hS1
        exact ⟨_, _, nx + k, hc y g3, hr.2.2.2.2 (hq.wf k5), by rw [hr.1, ← hq.den], hS1⟩
      · exact k3.elim
    · exact hc.elim
  · exact hc.elim

/-- A function that changes only what it is handed: what the arguments' data are behind it. -/
def ecU {α Y : Type} (L : ArgL α) (pre : α → List Prop) (post : α → Y → Prop) (upd : α → Y → α) (res : α → Y → SV) : List SV → Hp → Nat → (SV → Hp → Nat → Prop) → Prop := ecC L pre post res (fun x y => Hp.owned (L.hp 0 (upd x y))) 0
theorem nil_eqv {g b off : Nat} {p : List PS} {wd i n c : Nat} {z : Bool} (hz : z = true) (hn : n = 0) (hc : c = 0) : SVeq nilSlice (.slice g b off p wd i n c z) := by
  subst hz hn hc
  exact ⟨rfl, rfl, rfl, fun _ => ⟨fun _ => ⟨rfl, rfl⟩, Nat.le_refl _, by omega⟩⟩

/-! ### against nil -/
/-- A slice against nil. -/
def eqSl : SV → SV → Option Bool
  | .slice _ _ _ _ _ _ _ _ z, .slice 999999 0 0 [] 0 0 0 0 true => some z
  | _, _ => none
theorem eqSl_ok {t e : TypeId} (ht : P.underlying t = some (.slice e)) : EqOk P t eqSl := by
  intro x y b h hx hy w u v
  unfold eqSl at h
  split at h
  · rename_i g bb off p wd i n c z
    injection h with h
    subst h
    have key : (Op.equal t (SV.slice g bb off p wd i n c z).den (.slice none 0 0)).run P w = .ok z w := by
      have := run_equal_slice_nil (P := P) w t e (if z then none else some ⟨bb, off + (pathOff p + i * wd), none⟩) n c ht
      simp only [SV.den]
      rw [this]
      cases z <;> rfl
    have hd : (SV.slice 999999 0 0 [] 0 0 0 0 true).den = .slice none 0 0 := rfl
    rw [hd]
    simp only [SV.den] at key ⊢
    refine ⟨?_, ?_⟩
    · simp only [eqGuard, binOp, Sem.run_bind, key]
      simp [key]
    · simp only [eqGuard, binOp, Sem.run_bind, key]
      simp [key]
  · cases h
/-- Two bools. -/
theorem eqBool_ok {t : TypeId} (ht : P.underlying t = some .bool) : EqOk P t eqBool := by
  intro x y b h hx hy w u v
  obtain ⟨p, q, rfl, rfl, rfl⟩ := eqBool_some h
  have key : (Op.equal t (.bool p) (.bool q)).run P w = .ok (p == q) w := run_equalIn_bool' (P := P) w 9999 t p q ht
  simp only [SV.den]
  refine ⟨?_, ?_⟩
  · simp only [eqGuard, binOp, Sem.run_bind, key]
    simp [key]
  · simp only [eqGuard, binOp, Sem.run_bind, key]
    simp [key]
/-- A pointer against nil. -/
def eqPt : SV → SV → Option Bool
  | .ptr _ _ _ _, .val (.pointer none) => some false
  | .val (.pointer none), .val (.pointer none) => some true
  | _, _ => none
theorem eqPt_ok {t : TypeId} (ht : P.underlying t = some (.pointer (P.pointee t))) : EqOk P t eqPt := by
  intro x y b h hx hy w u v
  unfold eqPt at h
  split at h
  · injection h with h
    subst h
    simp only [SV.den]
    refine ⟨?_, ?_⟩
    · rw [Sem.run_bind]
      simp [eqGuard, run_eql_pointer_nil w t _ ht]
    · rw [Sem.run_bind]
      simp [eqGuard, run_neq_pointer_nil w t _ ht]
  · injection h with h
    subst h
    simp only [SV.den]
    refine ⟨?_, ?_⟩
    · rw [Sem.run_bind]
      simp [eqGuard, run_eql_pointer_nil w t _ ht]
    · rw [Sem.run_bind]
      simp [eqGuard, run_neq_pointer_nil w t _ ht]
  · cases h

/-! ### small helps -/
/-- A loop behind whose round there is one new entry. -/
theorem l_succ {k : Nat} (h : k < 9223372036854775807) : IntKind.i64.wrap ((k : Int) + 1) = ((k + 1 : Nat) : Int) := by rw [w64_id (by omega) (by omega)]; omega
theorem toNat_nat (k : Nat) : ((k : Int)).toNat = k := by omega
/-- What is known instead of what is asked. -/
theorem vc_of {p q : Prop} (h : p = q) (hq : q) : p := h.mpr hq
end
end Eng
