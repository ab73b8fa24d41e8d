/-
  OWN WORK. THE ENGINE, part R: a range over a function whose body runs straight on: the body by the engine, the iterator by its contract.
-/
import Derived.RangeFuncNested
import Derived.RangeFuncLeaves
import Derived.Test.YtnibcchhhebfaaaGreatDoorEngN
namespace Eng
open Go Go.RowKit
set_option linter.unusedVariables false
set_option linter.unusedSimpArgs false
section
variable {P : Program} {E : Env} {N : Nat} {C : Ctx} {H : Hp} {w w' : World} {fr : Fr} {a : Act} {Q : Exit → Act → World → Prop}

/-- A block that is no cells may turn. -/
theorem grown_sat (h : Sat C H w) (hf : ∀ e ∈ H, e.fam = none) {row : Option Nat} (hg : w.grownBy w' row) (hr : ∀ r, row = some r → C.w0.heap.size ≤ r ∧ ∃ o : Obj, w.heap[r]? = some o ∧ o.isCells = false) : Sat C H w' := by
  have hb : ∀ e ∈ H, e.z = false → w'.heap[e.b]? = w.heap[e.b]? := fun e he hz => by
    have hE := h.ents e he
    refine hg.block _ (hE.lt hz h.kept _ ((blk_none (hf e he)).2 rfl)) (fun q => ?_)
    obtain ⟨q1, o, q2, q3⟩ := hr _ q.symm
    cases ho : e.own with
    | true =>
      obtain ⟨_, _, cs, fz, q4, _⟩ := hE.ow ho hz (hf e he)
      rw [q4] at q2
      cases q2
      cases q3
    | false =>
      have := (hE.ro ho hz (hf e he)).1
      omega
  refine ⟨⟨hg.os.trans h.kept.os, hg.tape.trans h.kept.tape, hg.output.trans h.kept.output, Nat.le_trans h.kept.size hg.size, fun k hk hM => (hg.block k (Nat.lt_of_lt_of_le hk h.kept.size) (fun q => ?_)).trans (h.kept.block k hk hM)⟩, fun e he => (h.ents e he).keep hg.size ?_, h.apart⟩
  · have := (hr _ q.symm).1; omega
  · cases hz : e.z with
    | true => exact .inl rfl
    | false => exact .inr fun k hk => by rw [(blk_none (hf e he)).1 hk]; exact hb e he hz
/-- What is no cells lies as it lay. -/
theorem kept_others {D F : Hp} (h : Sat C (Hp.app D F) w) (hf : ∀ e ∈ D, e.fam = none) (hk : Kept (Fm w D) w') (B : Nat) : KeepsFrom B w w' := by
  refine ⟨hk.size, fun k o _ ho hc => (hk.block k (Array.getElem?_eq_some_iff.1 ho).1 ?_).trans ho⟩
  rintro ⟨e, he, h1, h2, h3⟩
  obtain ⟨_, _, cs, fz, q4, _⟩ := (h.left.ents e he).ow h1 h2 (hf e he)
  rw [blk_none (hf e he)] at h3
  subst h3
  rw [q4] at ho
  cases ho
  cases hc
theorem kept_other {D F : Hp} (h : Sat C (Hp.app D F) w) {x : Ent} (hx : x ∈ F) (x1 : x.own = true) (x2 : x.z = false) (x3 : x.fam = none) (hk : Kept (Fm w D) w') : w'.heap[x.b]? = w.heap[x.b]? := by
  rw [app_eq] at h
  have hxE := h.ents x (List.mem_append_right _ hx)
  refine hk.block _ (hxE.lt x2 h.kept _ ((blk_none x3).2 rfl)) ?_
  rintro ⟨e, he, h1, h2, h3⟩
  exact (List.pairwise_append.1 h.apart).2.2 e he x hx h1 h2 x1 x2 _ h3 ((blk_none x3).2 rfl)

/-! ### within a round -/
def isDef : Op → Bool
  | .defer _ => true
  | _ => false
theorem upon_in {l n : Nat} {o : Oper} {next next' : Act → World → Prop} (hn : ∀ a w, next a w → next' a w) {r : Result Next} (h : o.upon P a next Q r) : o.uponIn (Fence.wide.inRound l) n P a next' Q r := by
  cases r with
  | ok x v =>
    cases x with
    | value _ => exact hn _ _ h
    | skip => exact hn _ _ h
    | defer _ => exact hn _ _ h
    | enter f args => exact ⟨fun q => (by cases q), (CallsIn.inRound l (callsIn_wide.2 h)).mono fun e w' hr => by cases e <;> first | exact hn _ _ hr | exact hr⟩
    | row row args => exact ⟨fun q => (by cases q), fun c cs _ => by obtain ⟨v, w1, q1, q2⟩ := h c cs; exact ⟨v, w1, hn _ _ q1, (stepsIn_wide (P := P)).2 q2⟩⟩
    | _ => exact (h : False).elim
  | halt x v =>
    cases x with
    | panic _ => exact h
    | _ => exact (h : False).elim
theorem wpList_in {l n : Nat} {ops : Array Oper} (hq : ¬ LetsOut Q) : ∀ (rest : List Oper) (a : Act) (w : World), (∀ o ∈ rest, isDef o.op = false) → wpList P ops Q rest a w → wpListIn (Fence.wide.inRound l) n P ops Q rest a w
  | [], a, w, _, h => h
  | o :: rest, a, w, hd, h => by
    have ih := fun a w => wpList_in hq (l := l) (n := n) (ops := ops) rest a w (fun o ho => hd o (List.mem_cons_of_mem _ ho))
    unfold wpList at h
    unfold wpListIn
    split at h
    · rename_i hw
      rw [if_pos hw]
      rcases h with h | ⟨_, h⟩
      · refine ⟨fun _ _ => trivial, ?_⟩
        rw [Oper.semAt_eq _ _ _ (fun c hc => by have := hd o (List.mem_cons_self ..); rw [hc] at this; cases this)]
        exact upon_in ih h
      · exact absurd h hq
    · rename_i hw
      rw [if_neg hw]
      exact ⟨fun _ _ => trivial, ih _ _ h⟩
def strB : Code → Bool
  | .skip => true
  | .region _ ops d => !d && ops.toList.all fun o => !isDef o.op
  | .seq x y => strB x && strB y
  | .block _ x => strB x
  | _ => false
theorem strIn_sound (hE : EnvOk P E) (l n : Nat) : ∀ (c : Code), strB c = true → ∀ (C : Ctx) (fr : Fr) (H : Hp) (nx : Nat) (K : EK → Fr → Hp → Nat → Prop) (Q : Exit → Act → World → Prop) (a : Act) (w : World), ¬ LetsOut Q →
    exCode E N [] c fr H nx K → Has N fr a → Sat C H w → (∀ e fr' H' nx' a' w', K e fr' H' nx' → Has N fr' a' → Sat C H' w' → Q (toExit e) a' w') → c.wpIn (Fence.wide.inRound l) n P Q a w := by
  intro c
  induction c with
  | skip => intro _ C fr H nx K Q a w _ h hA hS hQ; exact wpIn_skip (hQ .normal _ _ _ _ _ h hA hS)
  | seq x y ihx ihy =>
    intro hs C fr H nx K Q a w ho h hA hS hQ
    simp only [strB, Bool.and_eq_true] at hs
    refine wpIn_seq (ihx hs.1 C fr H nx _ _ a w (by exact ho) h hA hS ?_)
    intro e fr' H' nx' a' w' hk hA' hS'
    cases e with
    | normal => exact ihy hs.2 C fr' H' nx' K Q a' w' ho hk hA' hS' hQ
    | exit id => exact hQ (.exit id) _ _ _ _ _ hk hA' hS'
    | ret => exact hQ .ret _ _ _ _ _ hk hA' hS'
    | panic v => exact hQ (.panic v) _ _ _ _ _ hk hA' hS'
  | block id x ih =>
    intro hs C fr H nx K Q a w ho h hA hS hQ
    refine wpIn_block (ih hs C fr H nx _ _ a w (by exact ho) h hA hS ?_)
    intro e fr' H' nx' a' w' hk hA' hS'
    cases e with
    | normal => exact hQ .normal _ _ _ _ _ hk hA' hS'
    | exit id' =>
      dsimp only at hk
      simp only [toExit, Exit.inBlock]
      split at hk
      · rename_i hb
        have e1 : id' = id := by simpa using hb
        rw [if_pos e1]
        exact hQ .normal _ _ _ _ _ hk hA' hS'
      · rename_i hb
        have e1 : ¬ id' = id := by rintro rfl; simp at hb
        rw [if_neg e1]
        exact hQ (.exit id') _ _ _ _ _ hk hA' hS'
    | ret => exact hQ .ret _ _ _ _ _ hk hA' hS'
    | panic v => exact hQ (.panic v) _ _ _ _ _ hk hA' hS'
  | region id ops d =>
    intro hs C fr H nx K Q a w ho h hA hS hQ
    simp only [strB, Bool.and_eq_true, Bool.not_eq_true'] at hs
    obtain ⟨hd, hs⟩ := hs
    subst hd
    simp only [exCode] at h
    replace h := apartQ_to hS h
    have := exOps_sound (Q := Q) hE _ _ ops.toList (fun _ => True) (fun v fr' H' nx' => K (.panic v) fr' H' nx') (fun v fr H nx a w hk hA hS _ => hQ (.panic v) fr H nx a w hk hA hS) (K .normal) (fun fr H nx a w hk hA hS _ => hQ .normal fr H nx a w hk hA hS) ops.toList fr H nx a w (fun _ _ _ _ _ => trivial) h hA hS trivial
    have h2 := wpList_in (l := l) (n := n) ho ops.toList a w (fun o ho => by simpa using List.all_eq_true.1 hs o ho) this
    exact wpIn_region_list h2
  | _ => intro hs; cases hs
/-- What is said of a loop's memory behind the parts that have come. -/
def seqLA {α β : Type} (tags : List Nat) (Dp : List α → β → Hp) (inv : List α → β → Prop) : LA := ⟨0, List α × β, [], fun _ => [], tags, fun z => Dp z.1 z.2, fun z => inv z.1 z.2, fun _ => 0⟩
theorem fr_gd : ∀ (l : Fr), (∀ e ∈ l, e.gd = []) → ∀ s e, l.find s = some e → e.gd = []
  | [], _, s, e, h => by simp [Fr.find] at h
  | x :: r, hl, s, e, h => by
    simp only [Fr.find_cons] at h
    split at h
    · injection h with h; rw [← h]; exact hl x (List.mem_cons_self ..)
    · exact fr_gd r (fun e he => hl e (List.mem_cons_of_mem _ he)) s e h
/-- The deferred calls make no difference. -/
theorem has_defers (hA : Has N fr a) (hgd : ∀ e ∈ fr, e.gd = []) (d : List Deferred) : Has N fr { a with defers := d } :=
  ⟨hA.size, fun s e he => ⟨(hA.slot s e he).1, (hA.slot s e he).2.1, by rw [fr_gd fr hgd s e he]; trivial⟩⟩
theorem has_round {p : Nat} {v : SV} (hA : Has N fr a) (hp : p < N) (hv : v.wf) (hgd : ∀ e ∈ fr, e.gd = []) : Has N (⟨p, [], v⟩ :: fr) { tmps := (#[p].zip #[v.den]).foldl (fun t (p, v) => t.setIfInBounds p v) a.tmps, defers := [] } := by
  have e0 : (#[p].zip #[v.den]).foldl (fun t (p, v) => t.setIfInBounds p v) a.tmps = a.tmps.setIfInBounds p v.den := by simp
  rw [e0]
  refine ⟨by simp [hA.size], fun s e he => ?_⟩
  simp only [Fr.find_cons] at he
  split at he
  · rename_i hs
    have hs : p = s := by simpa using hs
    injection he with he
    subst he hs
    refine ⟨?_, fun _ => hv, trivial⟩
    have : p < a.tmps.size := by rw [hA.size]; exact hp
    simp [condB, this]
  · rename_i hs
    have hs : p ≠ s := fun q => by subst q; simp at hs
    obtain ⟨q1, q2, q3⟩ := hA.slot s e he
    have hg : e.gd = [] := fr_gd fr hgd s e he
    rw [hg] at q1 q2 ⊢
    refine ⟨?_, q2, trivial⟩
    rw [← q1]
    simp [Array.getElem?_setIfInBounds, hs]
/-- **A RANGE OVER A FUNCTION.** -/
theorem wp_range {α β : Type} (hE : EnvOk P E) {g : Operand} {p : Nat} {assign body : Code} {gf : Nat} {lb : Array Value} {Nr nx : Nat} {S Sp : List α → Prop} (val : α → SV) (hval : ∀ x, (val x).wf)
    (hs1 : strB assign = true) (hs2 : strB body = true) (hA : Has N fr a) (hgd : ∀ e ∈ fr, e.gd = []) (hp : p < N)
    {F : Hp} (tags : List Nat) (Dp : List α → β → Hp) (inv : List α → β → Prop) (hfam : ∀ pre y, ∀ e ∈ Hp.app (Dp pre y) F, e.fam = none) {y0 : β} (hi0 : inv [] y0) (hS : Sat C (Hp.app (Dp [] y0) F) w)
    {x : Ent} (hx : x ∈ F) (x1 : x.own = true) (x2 : x.z = false)
    (hg : a.eval g = .func (.func gf) #[] lb) (eg : ∀ args w, (callFunc gf args).run P w = .ok (.enter gf args) w)
    (hseq : SeqStopsK Fence.wide 2 P gf lb (fun y => #[(val y).den]) (fun W W' => W.heap.size ≤ W'.heap.size ∧ (x.b < W.heap.size → W'.heap[x.b]? = W.heap[x.b]?)) S Sp Nr w)
    (frA : α → Fr)
    (has : ∀ pre y u, inv pre y → exCode E N [] assign (⟨p, [], val u⟩ :: fr) (Hp.app (Dp pre y) (Hp.ro F)) nx fun e fr' H' nx' => e = .normal ∧ fr' = frA u ∧ ∃ z, meets (seqLA tags Dp inv) fr' H' z (z.1 = pre ∧ inv z.1 z.2))
    (hbd : ∀ pre y u, inv pre y → pre.length < Nr → exCode E N [] body (frA u) (Hp.app (Dp pre y) (Hp.ro F)) nx fun e fr' H' nx' => e = .normal ∧ ∃ z, meets (seqLA tags Dp inv) fr' H' z (z.1 = pre ++ [u] ∧ inv z.1 z.2))
    (hQ : ∀ (D : Nat) xs y W, w.heap.size ≤ D → S xs → inv xs y → Sat C (Hp.app (Dp xs y) F) W → W.heap[D]? = some (.deferred (some [])) → Q .normal { a with defers := { target := .collected D, args := #[] } :: a.defers } W) :
    (Code.rangeFunc g #[p] assign body).wp P Q a w := by
  have hsz := hS.kept.size
  have hxE := hS.ents x (by rw [app_eq]; exact List.mem_append_right _ hx)
  have x3 : x.fam = none := hfam [] y0 x (by rw [app_eq]; exact List.mem_append_right _ hx)
  have hxlt : x.b < w.heap.size := hxE.lt x2 hS.kept _ ((blk_none x3).2 rfl)
  have hD : ∀ pre y, ∀ e ∈ Dp pre y, e.fam = none := fun pre y e he => hfam pre y e (by rw [app_eq]; exact List.mem_append_left _ he)
  have hOwn : OwnFrom w.heap.size (fun (pre : List α) W => ∃ y, inv pre y ∧ Sat C (Hp.app (Dp pre y) F) W ∧ w.heap.size ≤ W.heap.size) := fun pre W W' row ⟨y, hv, hi, hl⟩ hgr hr =>
    ⟨y, hv, grown_sat hi (hfam pre y) hgr (fun r q => ⟨Nat.le_trans hsz (hr r q).1, (hr r q).2⟩), Nat.le_trans hl hgr.size⟩
  have done : ∀ {pre : List α} {y : β} {q : Prop} {z : List α × β} {fr' : Fr} {H' : Hp} {a' : Act} {W W' : World}, Sat C (Hp.app (Dp pre y) F) W → w.heap.size ≤ W.heap.size → meets (seqLA tags Dp inv) fr' H' z q → Has N fr' a' → Sat (Fm W (Dp pre y)) H' W' →
      q ∧ KeepsFrom w.heap.size W W' ∧ (W.heap.size ≤ W'.heap.size ∧ (x.b < W.heap.size → W'.heap[x.b]? = W.heap[x.b]?)) ∧ Sat C (Hp.app (Dp z.1 z.2) F) W' ∧ w.heap.size ≤ W'.heap.size := fun hi hl hm hA' hS' => by
    obtain ⟨m1, _, m3, m4⟩ := meets_sound hA' hS' hm
    have hS1 := hi.unframe m3
    rw [unfr_all m4] at hS1
    exact ⟨m1, kept_others hi (hD _ _) hS'.kept _, ⟨hS'.kept.size, fun _ => kept_other hi hx x1 x2 x3 hS'.kept⟩, hS1, Nat.le_trans hl hS'.kept.size⟩
  refine (wpIn_wide (n := 3)).1 (wpIn_rangeFunc_ownH (F := Fence.wide) (n := 3) rfl (by decide) hg trivial eg hseq (fun {A B C} h k => ⟨Nat.le_trans h.1 k.1, fun q => (k.2 (Nat.lt_of_lt_of_le q h.1)).trans (h.2 q)⟩)
    (fun W l o o' hl hlo _ _ => ⟨by simp [World.putObj], fun q => World.putObj_heap_other (by omega)⟩) (Below.refl _ _) (fun _ => rfl)
    (fun pre W => ∃ y, inv pre y ∧ Sat C (Hp.app (Dp pre y) F) W ∧ w.heap.size ≤ W.heap.size) (fun _ _ _ => False) hOwn (fun c pre W W' row hi _ _ => hi) ⟨y0, hi0, hS, Nat.le_refl _⟩ (fun y a' _ => Has N (frA y) a') (fun y a' _ W W' row hi _ _ => hi) ?_ ?_ ?_ ?_)
  · rintro l pre u W K ⟨y, hv, hi, hl⟩ hK
    refine strIn_sound hE l _ assign hs1 _ _ _ nx _ _ _ W (fun ⟨_, _, q⟩ => q) (has pre y u hv) (has_round hA hp (hval u) hgd) hi.frame_in ?_
    rintro e fr' H' nx' a' W' ⟨rfl, rfl, z, hm⟩ hA' hS'
    obtain ⟨⟨d0, d4⟩, d1, d2, d3, d5⟩ := done hi hl hm hA' hS'
    rw [d0] at d3 d4
    exact hK a' W' d1 d2 ⟨_, d4, d3, d5⟩ hA'
  · rintro l pre u a' W _ _ ⟨y, hv, hi, hl⟩ hA' hlen
    refine strIn_sound hE l _ body hs2 _ _ _ nx _ _ _ W (fun ⟨_, _, q⟩ => q) (hbd pre y u hv hlen) hA' hi.frame_in ?_
    rintro e fr' H' nx' a2 W' ⟨rfl, z, hm⟩ hA2 hS'
    obtain ⟨⟨d0, d4⟩, d1, d2, d3, d5⟩ := done hi hl hm hA2 hS'
    rw [d0] at d3 d4
    exact ⟨d1, d2, _, d4, d3, d5⟩
  · rintro D xs W hDl hSx ⟨y, hv, hi, hl⟩ hW
    exact hQ D xs y W hDl hSx hv hi hW
  · intro D c pre W _ _ h _
    exact h.elim
/-- A row of codes, one behind the other, ahead of the rest. -/
def seqs (L : List Code) (T : Code) : Code := L.foldr Code.seq T
theorem has_args {args : List SV} (hw : ∀ x ∈ args, x.wf) (hN : args.length ≤ N) : Has N (argFr 0 args) { tmps := (SV.denL args).toArray ++ Array.replicate (N - (SV.denL args).toArray.size) undef, defers := [] } := by
  have hlen : (SV.denL args).length = args.length := by rw [denL_eq]; simp
  refine ⟨by simp [hlen]; omega, fun s e he => ?_⟩
  have key : ∀ (l : List SV) (k : Nat) (s : Nat) (e : FE), (argFr k l).find s = some e → e.gd = [] ∧ k ≤ s ∧ ∃ v, l[s - k]? = some v ∧ e.v = v := by
    intro l
    induction l with
    | nil => intro k s e h; simp [argFr, Fr.find] at h
    | cons v r ih =>
      intro k s e h
      simp only [argFr, Fr.find_cons] at h
      split at h
      · rename_i hs
        injection h with h
        subst h
        have e1 : k = s := by simpa using hs
        subst e1
        exact ⟨rfl, Nat.le_refl _, v, by simp, rfl⟩
      · obtain ⟨h1, h2, v', h3, h4⟩ := ih (k + 1) s e h
        refine ⟨h1, by omega, v', ?_, h4⟩
        rw [show s - k = (s - (k + 1)) + 1 from by omega]
        simpa using h3
  obtain ⟨h1, _, v, h3, h4⟩ := key args 0 s e he
  rw [h1, h4]
  simp only [Nat.sub_zero] at h3
  refine ⟨?_, fun _ => hw v (List.mem_of_getElem? h3), trivial⟩
  have hlt : s < args.length := (List.getElem?_eq_some_iff.1 h3).1
  rw [Array.getElem?_append_left (by simp [hlen]; exact hlt), List.getElem?_toArray]
  exact denL_mem h3
def exSeqs (E : Env) (N : Nat) (K : EK → Fr → Hp → Nat → Prop) (last : Fr → Hp → Nat → Prop) : List Code → Fr → Hp → Nat → Prop
  | [], fr, H, nx => last fr H nx
  | c :: L, fr, H, nx => exCode E N [] c fr H nx fun e fr' H' nx' => match e with
    | .normal => exSeqs E N K last L fr' H' nx'
    | e => K e fr' H' nx'
theorem seqs_sound (hE : EnvOk P E) {T : Code} {K : EK → Fr → Hp → Nat → Prop} {last : Fr → Hp → Nat → Prop} : ∀ (L : List Code) (fr : Fr) (H : Hp) (nx : Nat) (a : Act) (w : World),
    exSeqs E N K last L fr H nx → Has N fr a → Sat C H w →
    (∀ fr' H' nx' a' w', last fr' H' nx' → Has N fr' a' → Sat C H' w' → a'.defers = a.defers → T.wp P Q a' w') →
    (∀ e fr' H' nx' a' w', K e fr' H' nx' → Has N fr' a' → Sat C H' w' → a'.defers = a.defers → Q (toExit e) a' w') → (seqs L T).wp P Q a w
  | [], fr, H, nx, a, w, h, hA, hS, hT, _ => hT fr H nx a w h hA hS rfl
  | c :: L, fr, H, nx, a, w, h, hA, hS, hT, hQ => by
    refine wp_seq (exCode_sound hE [] c C fr H nx _ _ a w h hA hS ?_)
    intro e fr' H' nx' a' w' hk hA' hS' hU
    cases e with
    | normal => exact seqs_sound hE L fr' H' nx' a' w' hk hA' hS' (fun f2 H2 n2 a2 w2 q1 q2 q3 q4 => hT f2 H2 n2 a2 w2 q1 q2 q3 (q4.trans hU.defers)) (fun e f2 H2 n2 a2 w2 q1 q2 q3 q4 => hQ e f2 H2 n2 a2 w2 q1 q2 q3 (q4.trans hU.defers))
    | exit id => exact hQ (.exit id) _ _ _ _ _ hk hA' hS' hU.defers
    | ret => exact hQ .ret _ _ _ _ _ hk hA' hS' hU.defers
    | panic v => exact hQ (.panic v) _ _ _ _ _ hk hA' hS' hU.defers
end
end Eng
