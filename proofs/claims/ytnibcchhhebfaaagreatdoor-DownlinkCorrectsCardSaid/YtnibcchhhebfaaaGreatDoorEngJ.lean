/-
  OWN WORK. THE ENGINE, part J: regions, code, loops; a function's contract out of the run.
-/
import Derived.Test.YtnibcchhhebfaaaGreatDoorEngS
import Derived.Scope
namespace Eng
open Go
set_option linter.unusedVariables false
set_option linter.unusedSimpArgs false

section
variable {P : Program} {E : Env} {N : Nat} {fr : Fr} {a : Act} {G : Gd} {H : Hp} {C : Ctx} {w w' : World} {o : Oper} {Q : Exit → Act → World → Prop}

theorem gdHas_spec {s : Nat} : ∀ (G : Gd), gdHas s G = false → ∀ s' bb g, (s', bb, g) ∈ G → s ≠ s'
  | [], _, _, _, _, h => by cases h
  | (s0, b0, g0) :: r, hf, s', bb, g, h => by
    simp only [gdHas] at hf
    split at hf
    · cases hf
    · rename_i hb
      rcases List.mem_cons.1 h with h | h
      · simp only [Prod.mk.injEq] at h
        rintro rfl
        rw [h.1] at hb
        simp at hb
      · exact gdHas_spec r hf s' bb g h
theorem gdFresh_spec {s : Nat} : ∀ (fr : Fr), gdFresh s fr = true → ∀ e ∈ fr, gdHas s e.gd = false
  | [], _, e, h => by cases h
  | x :: r, hf, e, h => by
    simp only [gdFresh_cons] at hf
    split at hf
    · rename_i hx
      rcases List.mem_cons.1 h with h | h
      · subst h; rw [hx]; rfl
      · exact gdFresh_spec r hf e h
    · rename_i y l hx
      split at hf
      · cases hf
      · rename_i hh
        rcases List.mem_cons.1 h with h | h
        · subst h; rw [hx]; exact hh
        · exact gdFresh_spec r hf e h
theorem frfind_mem : ∀ (fr : Fr) (s : Nat) (e : FE), fr.find s = some e → e ∈ fr
  | [], g, e, h => by simp [Fr.find] at h
  | x :: r, g, e, h => by
    simp only [Fr.find_cons] at h
    split at h
    · injection h with h
      subst h
      exact List.mem_cons_self ..
    · exact List.mem_cons_of_mem _ (frfind_mem r g e h)
theorem GOk_set {s : Nat} {v : Value} : ∀ (G : Gd), GOk a G → gdHas s G = false → GOk { a with tmps := a.tmps.setIfInBounds s v } G
  | [], _, _ => trivial
  | (s0, b0, g0) :: r, h, hf => by
    have hne : s ≠ s0 := gdHas_spec _ hf s0 b0 g0 (List.mem_cons_self ..)
    simp only [gdHas] at hf
    split at hf
    · cases hf
    · refine ⟨fun hr => ?_, GOk_set r h.2 hf⟩
      rw [Array.getElem?_setIfInBounds_ne hne]
      exact h.1 hr

theorem Has.put (hA : Has N fr a) {dst : Option Nat} {v : SV} (hO : GOk a G) (hd : okDst N G fr dst = true) (hw : condB G = true → v.wf) :
    Has N (put dst G v fr) (a.put dst (if condB G then v.den else undef)) := by
  cases dst with
  | none => exact hA
  | some s =>
    simp only [okDst] at hd
    split at hd
    · rename_i hlt
      split at hd
      · cases hd
      · rename_i hg
        have hlt' : s < N := by simpa using hlt
        refine ⟨by simp [Act.put, hA.size], fun s' e he => ?_⟩
        simp only [Eng.put, Fr.find_cons] at he
        split at he
        · rename_i hs
          injection he with he
          subst he
          have e1 : s = s' := by simpa using hs
          subst e1
          refine ⟨?_, hw, GOk_set G hO hg⟩
          simp [Act.put, hA.size, hlt']
        · rename_i hs
          have e1 : s ≠ s' := by
            rintro rfl
            simp at hs
          obtain ⟨h1, h2, h3⟩ := hA.slot s' e he
          refine ⟨?_, h2, GOk_set _ h3 (gdFresh_spec fr hd e (frfind_mem fr s' e he))⟩
          simp only [Act.put]
          rw [Array.getElem?_setIfInBounds_ne e1]
          exact h1
    · cases hd

/-- An effect's step, as the walk wants it. -/
theorem estep_wp (hE : EnvOk P E) (hA : Has N fr a) (hS : Sat C H w) {nx : Nat} {K : SV → Hp → Nat → Prop} (hO : GOk a G) (hG : gHolds G) (hd : okDst N G fr o.dst = true) (h : estep E fr H G nx K o.op) {next : Act → World → Prop}
    (hK : ∀ v H' nx' w' u, K v H' nx' → Sat C H' w' → Has N (put o.dst G v fr) (a.put o.dst u) → next (a.put o.dst u) w') : o.wp P a w next Q := by
  have val : (∃ v H' nx' w', (execOp a.eval o).run P w = .ok (.value v.den) w' ∧ K v H' nx' ∧ v.wf ∧ Sat C H' w') → o.wp P a w next Q := by
    rintro ⟨v, H', nx', w', h1, h2, h3, h4⟩
    unfold Oper.wp
    rw [h1]
    have := hA.put (v := v) hO hd (fun _ => h3)
    rw [if_pos ((condB_iff G).1 hG)] at this
    exact hK v H' nx' w' _ h2 h4 this
  cases hop : o.op with
  | alloc t => rw [hop] at h; exact val (es_alloc hE hO hG hS hop h)
  | box t x => rw [hop] at h; exact val (es_box hA hO hG hS hop h)
  | makeSlice t l c => rw [hop] at h; exact val (es_makeSlice hE hA hO hG hS hop h)
  | buildSlice t n parts => rw [hop] at h; exact val (es_buildSlice hE hA hO hG hS hop h)
  | convert s d x => rw [hop] at h; exact val (es_convert hE hA hO hG hS hop h)
  | makeMap t rs => rw [hop] at h; exact val (es_makeMap hE hS hop h)
  | mapUpdate t m k y =>
    rw [hop] at h
    obtain ⟨v, H', nx', w', h1, h2, h3, h4, h5⟩ := es_mapUpdate hE hA hO hG hS (.inl hop) h
    unfold Oper.wp
    rw [h1]
    have := hA.put (v := v) hO hd (fun _ => h4)
    rw [if_pos ((condB_iff G).1 hG), h2] at this
    exact hK v H' nx' w' _ h3 h5 this
  | insert t m k y =>
    rw [hop] at h
    obtain ⟨v, H', nx', w', h1, h2, h3, h4, h5⟩ := es_mapUpdate hE hA hO hG hS (.inr hop) (by simp only [estep] at h ⊢; exact h)
    unfold Oper.wp
    rw [h1]
    have := hA.put (v := v) hO hd (fun _ => h4)
    rw [if_pos ((condB_iff G).1 hG), h2] at this
    exact hK v H' nx' w' _ h3 h5 this
  | store t x y =>
    rw [hop] at h
    obtain ⟨v, H', nx', w', h1, h2, h3, h4, h5⟩ := es_store hE hA hO hG hS hop h
    unfold Oper.wp
    rw [h1]
    have := hA.put (v := v) hO hd (fun _ => h4)
    rw [if_pos ((condB_iff G).1 hG), h2] at this
    exact hK v H' nx' w' _ h3 h5 this
  | call c =>
    obtain ⟨callee, args, tys⟩ := c
    rw [hop] at h
    cases callee with
    | builtin b =>
      cases b <;> first
        | exact val (es_append hE hA hO hG hS hop h)
        | exact val (es_copy hE hA hO hG hS hop h)
        | exact val (es_clear hE hA hO hG hS hop h)
        | exact val (es_delete hE hA hO hG hS hop h)
        | exact val (es_len hE hA hO hG hS hop h)
        | (simp [estep] at h; done)
    | invoke r m => simp [estep] at h
    | value f =>
      simp only [estep] at h
      split at h
      · rename_i k l m hf
        split at h
        · rename_i av hav
          obtain ⟨e1, e2⟩ := ev_sound hA hO hG hf
          obtain ⟨f1, f2⟩ := evs_sound hA hO hG _ _ hav
          have hall : ∀ x ∈ l ++ (av ++ m), x.wf := fun x hx => by
            simp only [List.mem_append] at hx
            rcases hx with hx | hx | hx
            · exact (wfL_iff l).1 e2.1 x hx
            · exact f2 x hx
            · exact (wfL_iff m).1 e2.2 x hx
          obtain ⟨g2, g3⟩ := hE.ec k _ H nx K h hall
          have harr : args.map a.eval = (SV.denL av).toArray := by rw [← f1]; apply Array.ext'; simp
          have hargs : (SV.denL l).toArray ++ args.map a.eval ++ (SV.denL m).toArray = (SV.denL (l ++ (av ++ m))).toArray := by
            rw [harr]
            apply Array.ext'
            simp [denL_eq]
          have hrun : (execOp a.eval o).run P w = .ok (.enter k (SV.denL (l ++ (av ++ m))).toArray) w := by
            simp only [execOp, hop, Sem.run_bind, resolve, e1, SV.den, Deferred.ofValue, Sem.run_pure, Result.andThen_ok, invoke]
            rw [hargs]
            exact g2 _ w
          unfold Oper.wp
          rw [hrun, Oper.upon_enter]
          refine (g3 C w hS).mono ?_
          rintro e w' ⟨r, H', nx', k1, k2, rfl, k4⟩
          have := hA.put (v := r) hO hd (fun _ => k2)
          rw [if_pos ((condB_iff G).1 hG)] at this
          exact hK r H' nx' w' _ k1 k4 this
        · exact h.elim
      · exact h.elim
  | _ => rw [hop] at h; simp [estep] at h

/-- The slots that a list of operations writes. -/
def Wr (ops : List Oper) (I : Act → Prop) : Prop := ∀ a v o, o ∈ ops → I a → I (a.put o.dst v)

theorem exOps_sound (hE : EnvOk P E) (raw dg : Bool) (all : List Oper) (I : Act → Prop) (Kp : SV → Fr → Hp → Nat → Prop) (hKp : ∀ v fr H nx a w, Kp v fr H nx → Has N fr a → Sat C H w → I a → Q (.panic [{ v := v.den, recovered := false }]) a w) (K : Fr → Hp → Nat → Prop) (hK : ∀ fr H nx a w, K fr H nx → Has N fr a → Sat C H w → I a → Q .normal a w) :
    ∀ (ops : List Oper) (fr : Fr) (H : Hp) (nx : Nat) (a : Act) (w : World), Wr ops I → exOps E N raw dg all Kp K ops fr H nx → Has N fr a → Sat C H w → I a → wpList P all.toArray Q ops a w
  | [], fr, H, nx, a, w, _, h, hA, hS, hi => hK fr H nx a w h hA hS hi
  | o :: rest, fr, H, nx, a, w, hW, h, hA, hS, hi => by
    have hW' : Wr rest I := fun a v o ho => hW a v o (List.mem_cons_of_mem _ ho)
    have hWo : ∀ v, I (a.put o.dst v) := fun v => hW a v o (List.mem_cons_self ..) hi
    simp only [exOps] at h
    split at h
    · rename_i x hx
      have hop : o.op = .panic x := by
        cases ho : o.op <;> rw [ho] at hx <;> simp [panicOp] at hx
        rw [hx]
      split at h
      · rename_i hG
        obtain ⟨hw, _⟩ := chain_sound hA hG
        split at h
        · rename_i t u hv
          obtain ⟨e1, _⟩ := ev_sound hA (G := []) trivial trivial hv
          unfold wpList
          rw [hw, if_pos (by rfl)]
          left
          have hrun : (execOp a.eval o).run P w = .halt (.panic (SV.iface t u).den) w := by
            simp only [execOp, hop, Sem.run_bind, e1, SV.den]
            rfl
          unfold Oper.wp
          rw [hrun, Oper.upon_panic]
          exact hKp _ fr H nx a w h hA hS hi
        · exact h.elim
      · exact h.elim
    split at h
    · rename_i G hG
      obtain ⟨hw, hO⟩ := chain_sound hA hG
      split at h
      · exact h.elim
      · rename_i hd
        have h' : (∃ k av, G = [] ∧ xcOp E fr o.op = some (k, av) ∧ E.xc k av H nx (fun v H' nx' => Kp v fr H' nx') (fun v H' nx' => Hp.fo H' fun H2 => putF (isNm raw o.op) o.dst [] v fr fun fr' => exOps E N raw dg all Kp K rest fr' H2 nx')) ∨ opRest E N raw dg o fr H nx G fun fr' H' nx' => exOps E N raw dg all Kp K rest fr' H' nx' := by
          cases G with
          | nil =>
            cases hx : xcOp E fr o.op with
            | none => rw [hx] at h; exact .inr h
            | some p =>
              obtain ⟨k, av⟩ := p
              rw [hx] at h
              exact .inl ⟨k, av, rfl, rfl, h⟩
          | cons g r => exact .inr h
        clear h
        rcases h' with ⟨k, av, hGe, hxo, h⟩ | h
        · subst hGe
          unfold wpList
          rw [hw, if_pos (by rfl)]
          left
          unfold xcOp at hxo
          split at hxo
          · rename_i c hop
            obtain ⟨callee, args, tys⟩ := c
            split at hxo
            · rename_i f hcl
              dsimp only at hcl hxo
              subst hcl
              split at hxo
              · rename_i k' l m hf
                split at hxo
                · rename_i hX
                  split at hxo
                  · rename_i a0 hav
                    simp only [Option.some.injEq, Prod.mk.injEq] at hxo
                    obtain ⟨rfl, rfl⟩ := hxo
                    obtain ⟨e1, e2⟩ := ev_sound hA (G := []) trivial trivial hf
                    obtain ⟨f1, f2⟩ := evs_sound hA (G := []) trivial trivial _ _ hav
                    have hall : ∀ x ∈ l ++ (a0 ++ m), x.wf := fun x hx => by
                      simp only [List.mem_append] at hx
                      rcases hx with hx | hx | hx
                      · exact (wfL_iff l).1 e2.1 x hx
                      · exact f2 x hx
                      · exact (wfL_iff m).1 e2.2 x hx
                    obtain ⟨g2, g3⟩ := hE.xc k' hX _ H nx _ _ h hall
                    have harr : args.map a.eval = (SV.denL a0).toArray := by rw [← f1]; apply Array.ext'; simp
                    have hargs : (SV.denL l).toArray ++ args.map a.eval ++ (SV.denL m).toArray = (SV.denL (l ++ (a0 ++ m))).toArray := by
                      rw [harr]
                      apply Array.ext'
                      simp [denL_eq]
                    have hrun : (execOp a.eval o).run P w = .ok (.enter k' (SV.denL (l ++ (a0 ++ m))).toArray) w := by
                      simp only [execOp, hop, Sem.run_bind, resolve, e1, SV.den, Deferred.ofValue, Sem.run_pure, Result.andThen_ok, invoke]
                      rw [hargs]
                      exact g2 _ w
                    unfold Oper.wp
                    rw [hrun, Oper.upon_enter]
                    refine (g3 C w hS).mono ?_
                    rintro e w' (⟨r, H', nx', k1, k2, rfl, k4⟩ | ⟨v, H', nx', k1, rfl, k4⟩)
                    · have hput := hA.put (v := r) hO hd (fun _ => k2)
                      rw [if_pos (by rfl)] at hput
                      exact exOps_sound hE raw dg all I Kp hKp K hK rest _ H' nx' _ w' hW' (putF_to ((Hp.fo_iff _ _).1 k1)) hput k4 (hWo _)
                    · exact hKp v fr H' nx' a w' k1 hA k4 hi
                  · cases hxo
                · cases hxo
              · cases hxo
            · cases hxo
          · cases hxo
        unfold opRest at h
        split at h
        · rename_i hsk
          have hc : ¬ condB G = true := by
            intro q
            rw [q] at hsk
            cases dg <;> cases hsk
          unfold wpList
          rw [hw, if_neg hc]
          have hput := hA.put (v := .bool false) hO hd (fun q => absurd q hc)
          rw [if_neg hc] at hput
          exact exOps_sound hE raw dg all I Kp hKp K hK rest _ H nx _ w hW' (putF_to h) hput hS (hWo _)
        split at h
        · rename_i ps v hp
          obtain ⟨h1, h2⟩ := allP_to _ _ _ h
          have h2 := putF_to h2
          unfold wpList
          rw [hw]
          by_cases hc : condB G = true
          · rw [if_pos hc]
            left
            obtain ⟨hvw, hq⟩ := pstep_sound hE hA hO ((condB_iff G).2 hc) hp (h1 ((condB_iff G).2 hc)) hS
            have hput := hA.put hO hd (fun _ => hvw)
            rw [if_pos hc] at hput
            refine Oper.wp_of_quiet (P := P) (C := Sat C H) hS (K := fun a' => a' = a.put o.dst v.den) ?_ ⟨v.den, hq, rfl⟩
            rintro a' w' hS' rfl
            exact exOps_sound hE raw dg all I Kp hKp K hK rest _ H nx _ w' hW' h2 hput hS' (hWo _)
          · rw [if_neg hc]
            have hput := hA.put (v := v) hO hd (fun q => absurd q hc)
            rw [if_neg hc] at hput
            exact exOps_sound hE raw dg all I Kp hKp K hK rest _ H nx _ w hW' h2 hput hS (hWo _)
        · unfold wpList
          rw [hw]
          cases G with
          | nil =>
            rw [if_pos (by rfl)]
            left
            exact estep_wp hE hA hS (G := []) trivial trivial hd h (fun v H' nx' w' u hk hS' hA' => exOps_sound hE raw dg all I Kp hKp K hK rest _ H' nx' _ w' hW' (putF_to ((Hp.fo_iff _ _).1 hk)) hA' hS' (hWo _))
          | cons g0 G' =>
            have h : (gHolds (g0 :: G') → estep E fr H (g0 :: G') nx (fun v H' nx' => Hp.fo H' fun H2 => putF (isNm raw o.op) o.dst (g0 :: G') v fr fun fr' => exOps E N raw dg all Kp K rest fr' H2 nx') o.op) ∧
                ((gHolds (g0 :: G') → False) → putF false o.dst (g0 :: G') (.bool false) fr fun fr' => exOps E N raw dg all Kp K rest fr' H nx) := by
              cases dg with
              | false => exact h
              | true =>
                simp only at h
                split at h
                · rename_i hb
                  exact ⟨fun _ => h, fun q => absurd ((condB_iff _).2 hb) q⟩
                · rename_i hb
                  exact ⟨fun q => absurd ((condB_iff _).1 q) (by simp [hb]), fun _ => h⟩
            obtain ⟨h1, h2⟩ := h
            by_cases hc : condB (g0 :: G') = true
            · rw [if_pos hc]
              left
              have hGh := (condB_iff _).2 hc
              exact estep_wp hE hA hS hO hGh hd (h1 hGh) (fun v H' nx' w' u hk hS' hA' => exOps_sound hE raw dg all I Kp hKp K hK rest _ H' nx' _ w' hW' (putF_to ((Hp.fo_iff _ _).1 hk)) hA' hS' (hWo _))
            · rw [if_neg hc]
              have hput := hA.put (v := .bool false) hO hd (fun q => absurd q hc)
              rw [if_neg hc] at hput
              exact exOps_sound hE raw dg all I Kp hKp K hK rest _ H nx _ w hW' (putF_to (h2 fun q => hc ((condB_iff _).1 q))) hput hS (hWo _)
    · exact h.elim

theorem exPure_sound (hE : EnvOk P E) (raw : Bool) (all : List Oper) (I : Act → Prop) (K : Fr → Prop) (hS : Sat C H w) (hK : ∀ fr a w, K fr → Has N fr a → Sat C H w → I a → Q .normal a w) :
    ∀ (ops : List Oper) (fr : Fr) (a : Act), Wr ops I → exPure E N raw all H K ops fr → Has N fr a → I a → wpQuiet P all.toArray (Sat C H) (fun a' => ∀ w', Sat C H w' → Q .normal a' w') ops a
  | [], fr, a, _, h, hA, hi => fun w' hw' => hK fr a w' h hA hw' hi
  | o :: rest, fr, a, hW, h, hA, hi => by
    have hW' : Wr rest I := fun a v o ho => hW a v o (List.mem_cons_of_mem _ ho)
    have hWo : ∀ v, I (a.put o.dst v) := fun v => hW a v o (List.mem_cons_self ..) hi
    simp only [exPure] at h
    split at h
    · rename_i G hG
      obtain ⟨hw, hO⟩ := chain_sound hA hG
      split at h
      · exact h.elim
      · rename_i hd
        split at h
        · rename_i ps v hp
          obtain ⟨h1, h2⟩ := allP_to _ _ _ h
          have h2 := putF_to h2
          unfold wpQuiet
          rw [hw]
          by_cases hc : condB G = true
          · rw [if_pos hc]
            obtain ⟨hvw, hq⟩ := pstep_sound hE hA hO ((condB_iff G).2 hc) hp (h1 ((condB_iff G).2 hc)) hS
            have hput := hA.put hO hd (fun _ => hvw)
            rw [if_pos hc] at hput
            exact ⟨v.den, hq, exPure_sound hE raw all I K hS hK rest _ _ hW' h2 hput (hWo _)⟩
          · rw [if_neg hc]
            have hput := hA.put (v := v) hO hd (fun q => absurd q hc)
            rw [if_neg hc] at hput
            exact exPure_sound hE raw all I K hS hK rest _ _ hW' h2 hput (hWo _)
        · exact h.elim
    · exact h.elim

/-! ### parts that run with the rest of the memory only read -/
def Own (w : World) : Ctx := ⟨w, fun _ => False⟩
/-- From w on only the blocks of D change. -/
def Fm (w : World) (D : Hp) : Ctx := ⟨w, fun k => ∃ e ∈ D, e.own = true ∧ e.z = false ∧ e.blk k⟩
theorem Kept.refl (w : World) : Kept (Own w) w := ⟨rfl, rfl, rfl, Nat.le_refl _, fun _ _ _ => rfl⟩
theorem Kept.trans_own (h : Kept C w) (k : Kept (Own w) w') : Kept C w' :=
  ⟨k.os.trans h.os, k.tape.trans h.tape, k.output.trans h.output, Nat.le_trans h.size k.size, fun i hi hm => (k.block i (Nat.lt_of_lt_of_le hi h.size) (fun q => q)).trans (h.block i hi hm)⟩
theorem Sat.trans_own (h : Sat C H w) (k : Kept (Own w) w') : Sat C H w' := by
  refine ⟨h.kept.trans_own k, fun e he => ?_, h.apart⟩
  cases hz : e.z with
  | true => exact (h.ents e he).keep k.size (.inl hz)
  | false => exact (h.ents e he).keep k.size (.inr fun i hi => k.block i ((h.ents e he).lt hz h.kept i hi) (fun q => q))
theorem app_eq : ∀ (D F : Hp), Hp.app D F = D ++ F
  | [], F => rfl
  | e :: r, F => by rw [Hp.app, app_eq r F]; rfl
theorem frapp_eq : ∀ (D F : Fr), Fr.app D F = D ++ F
  | [], F => rfl
  | e :: r, F => by rw [Fr.app, frapp_eq r F]; rfl
theorem only_eq (t : List Nat) : ∀ H : Hp, Hp.only t H = H.filter fun e => memN e.g t
  | [] => rfl
  | e :: r => by
    rw [Hp.only, List.filter_cons, only_eq t r]
    cases memN e.g t <;> rfl
theorem minus_eq (t : List Nat) : ∀ H : Hp, Hp.minus t H = H.filter fun e => !memN e.g t
  | [] => rfl
  | e :: r => by
    rw [Hp.minus, List.filter_cons, minus_eq t r]
    cases memN e.g t <;> rfl
theorem ro_eq : ∀ H : Hp, Hp.ro H = H.map Ent.ro
  | [] => rfl
  | e :: r => by rw [Hp.ro, ro_eq r]; rfl
theorem owned_eq : ∀ H : Hp, Hp.owned H = H.filter fun e => e.own
  | [] => rfl
  | e :: r => by
    rw [Hp.owned, List.filter_cons, owned_eq r]
    cases e.own <;> rfl
theorem pairwise_all {α : Type} {R : α → α → Prop} (hs : ∀ a b, R a b → R b a) : ∀ {l : List α}, l.Pairwise R → ∀ a ∈ l, ∀ b ∈ l, a ≠ b → R a b
  | [], _, a, ha, _, _, _ => by cases ha
  | x :: l, h, a, ha, b, hb, hne => by
    obtain ⟨h1, h2⟩ := List.pairwise_cons.1 h
    rcases List.mem_cons.1 ha with ha | ha <;> rcases List.mem_cons.1 hb with hb | hb
    · exact absurd (ha.trans hb.symm) hne
    · rw [ha]; exact h1 b hb
    · rw [hb]; exact hs _ _ (h1 a ha)
    · exact pairwise_all hs h2 a ha b hb hne
/-- Parted by tags. -/
theorem Sat.split (h : Sat C H w) (t : List Nat) : Sat C (Hp.app (Hp.only t H) (Hp.minus t H)) w := by
  rw [app_eq, only_eq, minus_eq]
  refine ⟨h.kept, fun e he => ?_, List.pairwise_append.2 ⟨h.apart.sublist List.filter_sublist, h.apart.sublist List.filter_sublist, fun e he e' he' => ?_⟩⟩
  · rcases List.mem_append.1 he with he | he
    · exact h.ents e (List.mem_filter.1 he).1
    · exact h.ents e (List.mem_filter.1 he).1
  · have h1 := List.mem_filter.1 he
    have h2 := List.mem_filter.1 he'
    refine pairwise_all (fun a b q => q.symm) h.apart e h1.1 e' h2.1 (fun q => ?_)
    subst q
    have := h2.2
    rw [h1.2] at this
    cases this
/-- The part's own view. -/
theorem Sat.frame_in {D F : Hp} (h : Sat C (Hp.app D F) w) : Sat (Fm w D) (Hp.app D (Hp.ro F)) w := by
  rw [app_eq] at h ⊢
  rw [ro_eq]
  obtain ⟨h1, h2, h3⟩ := List.pairwise_append.1 h.apart
  have hD : ∀ e ∈ D, EntOk C w e := fun e he => h.ents e (List.mem_append_left _ he)
  have hF : ∀ e ∈ F, EntOk C w e := fun e he => h.ents e (List.mem_append_right _ he)
  have hold : ∀ e, EntOk C w e → e.own = false → e.z = false → ∀ k, e.blk k → k < w.heap.size ∧ ¬ (Fm w D).M k := fun e he ho hz k hk => by
    refine ⟨he.lt hz h.kept k hk, ?_⟩
    rintro ⟨x, hx, xo, xz, hxk⟩
    obtain ⟨r1, r2⟩ := he.old hz ho _ hk
    rcases (hD x hx).own_in xo xz hxk with s1 | s1
    · omega
    · exact r2 s1
  have hFall : ∀ e ∈ F, e.z = false → ∀ k, e.blk k → k < w.heap.size ∧ ¬ (Fm w D).M k := fun e he hz k hk => by
    cases ho : e.own with
    | false => exact hold e (hF e he) ho hz k hk
    | true =>
      refine ⟨(hF e he).lt hz h.kept k hk, ?_⟩
      rintro ⟨x, hx, xo, xz, hxk⟩
      exact h3 x hx e he xo xz ho hz k hxk hk
  have hzf : ∀ e, EntOk C w e → ∀ i, i < e.n → e.z = false := fun e he i hi => by
    cases hz : e.z with
    | false => rfl
    | true => have := (he.z hz).1; omega
  refine ⟨⟨rfl, rfl, rfl, Nat.le_refl _, fun _ _ _ => rfl⟩, fun e he => ?_, List.pairwise_append.2 ⟨h1, ?_, fun e he e' he' _ _ q => ?_⟩⟩
  · rcases List.mem_append.1 he with he | he
    · have hO := hD e he
      refine ⟨hO.one, fun ho hz hf => hold e hO ho hz e.b ((blk_none hf).2 rfl), hO.z, fun ho hz hf => ?_, fun f hf i hi hs => ?_, fun f hf i hi h0 g0 hm => ?_, hO.row⟩
      rotate_left 2
      · have hz := hzf e hO i hi
        have hb : e.blk (f i).1 := by unfold Ent.blk; rw [hf]; exact ⟨i, hi, .inr (by rw [hm]; rfl), rfl⟩
        exact ⟨fun ho => hold e hO ho hz _ hb, fun ho => .inr ⟨e, he, ho, hz, hb⟩, (hO.mob f hf i hi h0 g0 hm).2.2⟩
      · obtain ⟨_, o2, o3⟩ := hO.ow ho hz hf
        exact ⟨.inr ⟨e, he, ho, hz, (blk_none hf).2 rfl⟩, o2, o3⟩
      · have hz := hzf e hO i hi
        have hb : e.blk (f i).1 := by unfold Ent.blk; rw [hf]; exact ⟨i, hi, .inl hs, rfl⟩
        exact ⟨fun ho => hold e hO ho hz _ hb, fun ho => ⟨.inr ⟨e, he, ho, hz, hb⟩, ((hO.fam f hf i hi hs).2 ho).2⟩⟩
    · obtain ⟨x, hx, rfl⟩ := List.mem_map.1 he
      have hO := hF x hx
      refine ⟨hO.one, fun ho hz hf => hFall x hx hz x.b ((blk_none (e := x) hf).2 rfl), hO.z, fun ho => (by cases ho), fun f hf i hi hs => ⟨fun _ => ?_, fun ho => (by cases ho)⟩, fun f hf i hi h0 g0 hm => ⟨fun _ => ?_, fun ho => (by cases ho), (hO.mob f hf i hi h0 g0 hm).2.2⟩, hO.row⟩
      · have hf : x.fam = some f := hf
        have hi : i < x.n := hi
        exact hFall x hx (hzf x hO i hi) _ (by unfold Ent.blk; rw [hf]; exact ⟨i, hi, .inl hs, rfl⟩)
      · have hf : x.fam = some f := hf
        have hi : i < x.n := hi
        have hm : x.get i = .mobj h0 g0 := hm
        exact hFall x hx (hzf x hO i hi) _ (by unfold Ent.blk; rw [hf]; exact ⟨i, hi, .inr (by rw [hm]; rfl), rfl⟩)
  · refine List.pairwise_of_forall_mem_list fun e he e' he' ho => ?_
    obtain ⟨x, _, rfl⟩ := List.mem_map.1 he
    cases ho
  · obtain ⟨x, _, rfl⟩ := List.mem_map.1 he'
    cases q
/-- What is only read stands, whatever the part does. -/
theorem Sat.ro_stays {D F : Hp} (h : Sat C (Hp.app D F) w) (hk : Kept (Fm w D) w') : Sat (Own w') (Hp.ro F) w' := by
  have h' := h.frame_in
  rw [app_eq] at h'
  rw [ro_eq] at h' ⊢
  refine ⟨Kept.refl w', fun e he => ?_, ?_⟩
  · have hO := h'.ents e (List.mem_append_right _ he)
    have ho : e.own = false := by obtain ⟨x, _, rfl⟩ := List.mem_map.1 he; rfl
    have hk' : EntOk (Fm w D) w' e := by
      cases hz : e.z with
      | true => exact hO.keep hk.size (.inl hz)
      | false => exact hO.keep hk.size (.inr fun k hb => hk.block k (hO.old hz ho k hb).1 (hO.old hz ho k hb).2)
    refine ⟨hk'.one, fun _ hz hf => ⟨hk'.lt hz hk _ ((blk_none hf).2 rfl), fun q => q⟩, hk'.z, fun q => (by rw [ho] at q; cases q), fun f hf i hi hs => ⟨fun _ => ⟨?_, fun q => q⟩, fun q => (by rw [ho] at q; cases q)⟩, fun f hf i hi h0 g0 hm => ⟨fun _ => ⟨?_, fun q => q⟩, fun q => (by rw [ho] at q; cases q), (hk'.mob f hf i hi h0 g0 hm).2.2⟩, hk'.row⟩
    all_goals
      have hz : e.z = false := by
        cases hz : e.z with
        | false => rfl
        | true => have := (hO.z hz).1; omega
    · exact hk'.lt hz hk _ (by unfold Ent.blk; rw [hf]; exact ⟨i, hi, .inl hs, rfl⟩)
    · exact hk'.lt hz hk _ (by unfold Ent.blk; rw [hf]; exact ⟨i, hi, .inr (by rw [hm]; rfl), rfl⟩)
  · refine List.pairwise_of_forall_mem_list fun e he e' he' ho => ?_
    obtain ⟨x, _, rfl⟩ := List.mem_map.1 he
    cases ho
/-- Behind the part. -/
theorem Sat.unframe {D F H' : Hp} (h : Sat C (Hp.app D F) w) (h' : Sat (Fm w D) H' w') : Sat C (unfr F H') w' := by
  unfold unfr
  rw [app_eq] at h
  rw [app_eq, owned_eq]
  obtain ⟨h1, h2, h3⟩ := List.pairwise_append.1 h.apart
  have hD : ∀ e ∈ D, EntOk C w e := fun e he => h.ents e (List.mem_append_left _ he)
  have hF : ∀ e ∈ F, EntOk C w e := fun e he => h.ents e (List.mem_append_right _ he)
  have hM : ∀ k, (w.heap.size ≤ k ∨ (Fm w D).M k) → (C.w0.heap.size ≤ k ∨ C.M k) := fun k hk => by
    rcases hk with hk | ⟨x, hx, xo, xz, hxk⟩
    · exact .inl (Nat.le_trans h.kept.size hk)
    · exact (hD x hx).own_in xo xz hxk
  have hFall : ∀ e ∈ F, e.z = false → ∀ k, e.blk k → k < w.heap.size ∧ ¬ (Fm w D).M k := fun e he hz k hk => by
    refine ⟨(hF e he).lt hz h.kept k hk, ?_⟩
    rintro ⟨x, hx, xo, xz, hxk⟩
    cases ho : e.own with
    | false =>
      obtain ⟨r1, r2⟩ := (hF e he).old hz ho _ hk
      rcases (hD x hx).own_in xo xz hxk with s1 | s1
      · omega
      · exact r2 s1
    | true => exact h3 x hx e he xo xz ho hz k hxk hk
  have hb : ∀ k, k < w.heap.size → ¬ (Fm w D).M k → w'.heap[k]? = w.heap[k]? := fun k k1 k2 => h'.kept.block k k1 k2
  refine ⟨⟨h'.kept.os.trans h.kept.os, h'.kept.tape.trans h.kept.tape, h'.kept.output.trans h.kept.output, Nat.le_trans h.kept.size h'.kept.size, fun k k1 k2 => ?_⟩, fun e he => ?_, List.pairwise_append.2 ⟨h'.apart.sublist List.filter_sublist, h2, fun e he e' he' eo ez eo' ez' k q q' => ?_⟩⟩
  · rw [← h.kept.block k k1 k2]
    refine hb k (Nat.lt_of_lt_of_le k1 h.kept.size) (fun q => ?_)
    rcases hM k (.inr q) with q | q
    · omega
    · exact k2 q
  · rcases List.mem_append.1 he with he | he
    · obtain ⟨he, ho⟩ := List.mem_filter.1 he
      have hO := h'.ents e he
      refine ⟨hO.one, fun q => (by rw [ho] at q; cases q), hO.z, fun _ hz hf => ?_, fun f hf i hi hs => ⟨fun q => (by rw [ho] at q; cases q), fun q => ?_⟩, fun f hf i hi h0 g0 hm => ⟨fun q => (by rw [ho] at q; cases q), fun q => hM _ ((hO.mob f hf i hi h0 g0 hm).2.1 q), (hO.mob f hf i hi h0 g0 hm).2.2⟩, hO.row⟩
      · obtain ⟨o1, o2⟩ := hO.ow ho hz hf
        exact ⟨hM _ o1, o2⟩
      · obtain ⟨o1, o2⟩ := (hO.fam f hf i hi hs).2 q
        exact ⟨hM _ o1, o2⟩
    · have hO := hF e he
      cases hz : e.z with
      | true => exact hO.keep h'.kept.size (.inl hz)
      | false => exact hO.keep h'.kept.size (.inr fun k hk => hb k (hFall e he hz k hk).1 (hFall e he hz k hk).2)
  · obtain ⟨he, ho⟩ := List.mem_filter.1 he
    obtain ⟨f1, f2⟩ := hFall e' he' ez' k q'
    rcases (h'.ents e he).own_in ho ez q with o1 | o1
    · have : w.heap.size ≤ k := o1
      omega
    · exact f2 o1

/-! ### regions that draw their order, with effects -/
/-- An operation that may be taken first: it yields v wherever S holds. -/
def YS (P : Program) (ops : Array Oper) (C : Ctx) (S : Hp) (o : Oper) (v : Value) (a : Act) : Prop :=
  (Region.wanted o (yielded ops a.tmps) = true ∧ ∀ w, Kept C w → o.quietAt P a (Sat (Own w) S) w v) ∨ (Region.wanted o (yielded ops a.tmps) = false ∧ v = undef)
theorem YS.same {ops : Array Oper} {S : Hp} {v : Value} {a' : Act} (h : YS P ops C S o v a) (he : execOp a'.eval o = execOp a.eval o) (hw : Region.wanted o (yielded ops a'.tmps) = Region.wanted o (yielded ops a.tmps)) : YS P ops C S o v a' := by
  unfold YS at *
  rw [hw]
  refine h.imp (fun k => ⟨k.1, fun w hw => ?_⟩) id
  have := k.2 w hw
  unfold Oper.quietAt at *
  rw [he]
  exact this

/-- One of two operations that are apart, in a state in which the other one's value stands. -/
theorem wpOp_swap {ops : Array Oper} {oi oj : Oper} {v : Value} {j : Nat} {Y : Act → Prop} {K : Act → World → Prop} (hj : ops[j]? = some oj) (hap : oi.apart ops oj = true) (hsj : ∀ cs b, oj.op ≠ .select cs b)
    (hQ : ∀ c a w, Q (.panic c) (a.put oi.dst v) w → Q (.panic c) a w) (y1 : ∀ a u, Y a → Y (a.put oj.dst u)) (y2 : ∀ a d, Y a → Y { a with defers := d :: a.defers }) (hy : Y a)
    (h : wpOp P ops Q j K (a.put oi.dst v) w) : wpOp P ops Q j (fun a' w' => Y a' ∧ K (a'.put oi.dst v) w') a w := by
  obtain ⟨p1, p2, p3⟩ := Oper.apart_spec hap
  have hx := execOp_put oj hsj a oi.dst v p1
  have hwt := wanted_put oj a oi.dst v p1
  have hc : ∀ (b : Act) (u : Value), (b.put oi.dst v).put oj.dst u = (b.put oj.dst u).put oi.dst v := fun b u => Act.put_comm b v u p2
  unfold wpOp at h ⊢
  simp only [hj, hwt] at h ⊢
  by_cases hw : Region.wanted oj (yielded ops a.tmps) = true
  · rw [if_pos hw] at h ⊢
    rcases h with h | ⟨h1, h2⟩
    · left
      unfold Oper.wp at h ⊢
      rw [hx] at h
      revert h
      cases (execOp a.eval oj).run P w with
      | ok n w' =>
        cases n with
        | value u => intro h; exact ⟨y1 a u hy, by rw [← hc]; exact h⟩
        | skip => intro h; exact ⟨y1 a undef hy, by rw [← hc]; exact h⟩
        | defer d =>
          intro h
          refine ⟨y1 _ undef (y2 a d hy), ?_⟩
          rw [← hc, ← Act.put_defers]
          exact h
        | enter f args =>
          intro h
          simp only [Oper.upon_enter] at h ⊢
          refine h.mono ?_
          rintro (u | c | _) w2 he
          · exact ⟨y1 a u hy, by rw [← hc]; exact he⟩
          · exact hQ _ _ _ he
          · exact he
        | row r args =>
          intro h
          simp only [Oper.upon_row] at h ⊢
          exact h.mono fun u w2 he => ⟨y1 a u hy, by rw [← hc]; exact he⟩
        | _ => intro h; exact h
      | halt x w' =>
        cases x with
        | panic u => intro h; exact hQ _ _ _ h
        | _ => intro h; exact h
    · right
      refine ⟨?_, h2⟩
      unfold Oper.asks at h1 ⊢
      rw [hx] at h1
      exact h1
  · rw [if_neg hw] at h ⊢
    exact ⟨y1 a undef hy, by rw [← hc]; exact h⟩

/-- All orders, over what the symbolic heap says. -/
def anyX (P : Program) (ops : Array Oper) (Q : Exit → Act → World → Prop) (C : Ctx) : Nat → Array Bool → Act → Hp → Prop
  | 0, l, a, H => Region.ready .any ops l = [] ∧ ∀ w, Sat C H w → Q .normal a w
  | n + 1, l, a, H => (Region.ready .any ops l = [] → ∀ w, Sat C H w → Q .normal a w) ∧
    ∀ i ∈ Region.ready .any ops l, ∀ w, Sat C H w → wpOp P ops Q i (fun a' w' => ∃ H', anyX P ops Q C n (l.setIfInBounds i true) a' H' ∧ Sat C H' w') a w
theorem wpAny_of_anyX {ops : Array Oper} : ∀ (n : Nat) (l : Array Bool) (a : Act) (H : Hp) (w : World), anyX P ops Q C n l a H → Sat C H w → wpAny P .any ops Q n l a w
  | 0, _, _, _, _, h, hS => ⟨h.1, h.2 _ hS⟩
  | n + 1, _, _, _, _, h, hS => ⟨fun hr => h.1 hr _ hS, fun i hi => wpOp_mono (fun a' w' ⟨H', h2, h3⟩ => wpAny_of_anyX n _ a' H' w' h2 h3) (h.2 i hi _ hS)⟩
theorem wp_of_quietAt {T : World → Prop} {v : Value} {next : Act → World → Prop} (hw : T w) (h : o.quietAt P a T w v) (hn : ∀ w', T w' → next (a.put o.dst v) w') : o.wp P a w next Q := by
  unfold Oper.quietAt at h
  unfold Oper.wp
  revert h
  cases (execOp a.eval o).run P w with
  | ok n w' =>
    cases n with
    | value u => rintro ⟨rfl, rfl⟩; exact hn _ hw
    | skip => rintro ⟨rfl, rfl⟩; exact hn _ hw
    | enter f args =>
      rintro ⟨rfl, hc⟩
      rw [Oper.upon_enter]
      refine hc.mono ?_
      rintro e w2 ⟨rfl, hw2⟩
      exact hn _ hw2
    | _ => intro h; exact h.elim
  | halt x w' => intro h; exact h.elim
theorem YS.wpOp {ops : Array Oper} {S : Hp} (hro : ∀ w, Kept C w → Sat (Own w) S w) {v : Value} {i : Nat} {K : Act → World → Prop} (hi : ops[i]? = some o) (hy : YS P ops C S o v a) (hS : Sat C H w)
    (h : ∀ w', Sat C H w' → K (a.put o.dst v) w') : wpOp P ops Q i K a w := by
  unfold Go.wpOp
  simp only [hi]
  rcases hy with ⟨h1, h2⟩ | ⟨h1, rfl⟩
  · rw [if_pos h1]
    left
    exact wp_of_quietAt (T := Sat (Own w) S) (hro w hS.kept) (h2 w hS.kept) (fun w' hw' => h w' (hS.trans_own hw'.kept))
  · rw [if_neg (by rw [h1]; decide)]
    exact h w hS

/-- What may be taken first is taken first. -/
theorem anyX_first {ops : Array Oper} {S : Hp} (hro : ∀ w, Kept C w → Sat (Own w) S w) {i : Nat} {oi : Oper} {v : Value} (hi : ops[i]? = some oi) (hsel : Region.noSelect ops = true) (hQ : ∀ c a w, Q (.panic c) a w → False) :
    ∀ (n : Nat) (l : Array Bool) (a : Act) (H : Hp), (∀ j oj, ops[j]? = some oj → j ≠ i → l.getD j true = false → (∀ e ∈ oj.after, Region.binds .any e = true → e.on ≠ i) → oi.apart ops oj = true) →
      i ∈ Region.ready .any ops l → YS P ops C S oi v a → anyX P ops Q C n (l.setIfInBounds i true) (a.put oi.dst v) H → anyX P ops Q C (n + 1) l a H := by
  intro n
  induction n with
  | zero =>
    intro l a H hf hr hy hx
    refine ⟨fun h => (by rw [h] at hr; cases hr), fun j hj w hS => ?_⟩
    by_cases hji : j = i
    · subst hji
      exact hy.wpOp hro hi hS (fun w' hw' => ⟨H, hx, hw'⟩)
    · have := ready_mono hj hji
      rw [hx.1] at this
      cases this
  | succ n ih =>
    intro l a H hf hr hy hx
    refine ⟨fun h => (by rw [h] at hr; cases hr), fun j hj w hS => ?_⟩
    by_cases hji : j = i
    · subst hji
      exact hy.wpOp hro hi hS (fun w' hw' => ⟨H, hx, hw'⟩)
    · obtain ⟨hj0, oj, hoj, hall⟩ := mem_ready.1 hj
      have hwait : ∀ e ∈ oj.after, Region.binds .any e = true → e.on ≠ i := fun e he hb q => by
        have h1 := hall e he hb
        have h0 := (mem_ready.1 hr).1
        rw [q] at h1
        by_cases hlt : i < l.size
        · simp [hlt] at h0 h1
          rw [h0] at h1
          cases h1
        · simp [hlt] at h1
      have hap := hf j oj hoj hji hj0 hwait
      obtain ⟨_, q2, q3⟩ := Oper.apart_spec hap
      have hso := Region.noSelect_spec hsel i oi
      have h2 := wpOp_swap (Y := YS P ops C S oi v) hoj hap (fun cs b => Region.noSelect_spec hsel j oj cs b hoj) (fun c a w h => (hQ _ _ _ h).elim)
        (fun b u hb => hb.same (execOp_put oi (fun cs b => hso cs b hi) b oj.dst u q3) (wanted_put oi b oj.dst u q3)) (fun b d hb => hb.same rfl rfl) hy (hx.2 j (ready_mono hj hji) w hS)
      refine wpOp_mono (fun a' w' h3 => ?_) h2
      obtain ⟨hy', H', hx', hS'⟩ := h3
      refine ⟨H', ih _ a' H' (fun k ok hk hki hun hno => ?_) (ready_mono hr (Ne.symm hji)) hy' ?_, hS'⟩
      · refine hf k ok hk hki ?_ hno
        by_cases hjk : j = k
        · subst hjk; exact hj0
        · rw [getD_set_ne true hjk] at hun; exact hun
      · rw [Array.setIfInBounds_comm _ _ hji]
        exact hx'

theorem nth_toArray {ops : List Oper} {i : Nat} {o : Oper} (h : nth ops i = some o) : ops.toArray[i]? = some o := by
  rw [nth_eq] at h
  simpa using h
theorem nth_mem {ops : List Oper} {i : Nat} {o : Oper} (h : nth ops i = some o) : o ∈ ops := by
  rw [nth_eq] at h
  exact List.mem_of_getElem? h
theorem Has.again (hA : Has N fr a) {t : Nat} {e : FE} (he : fr.find t = some e) : Has N (⟨t, e.gd, e.v⟩ :: fr) a := by
  refine ⟨hA.size, fun s' e' he' => ?_⟩
  simp only [Fr.find_cons] at he'
  split at he'
  · rename_i hs
    injection he' with he'
    subst he'
    have : s' = t := (by simpa using hs : t = s').symm
    subst this
    exact hA.slot s' e he
  · exact hA.slot _ _ he'
theorem exSch_sound (hE : EnvOk P E) (raw : Bool) (ops : List Oper) (S : Hp) (hro : ∀ w, Kept C w → Sat (Own w) S w) (I : Act → Prop) (hW : Wr ops I) (K : Fr → Hp → Nat → Prop) (hsel : Region.noSelect ops.toArray = true) (hQ : ∀ c a w, Q (.panic c) a w → False) (hK : ∀ fr H nx a w, K fr H nx → Has N fr a → Sat C H w → I a → Q .normal a w) :
    ∀ (s : Sch) (fr : Fr) (H : Hp) (nx : Nat) (l : Array Bool) (a : Act) (n : Nat), exSch E N raw ops S K s fr H nx → Has N fr a → I a → s.depth ≤ n →
      (Sch.okB ops.toArray true s l = true → anyX P ops.toArray Q C n l a H) ∧
      (Sch.okB ops.toArray false s l = true → ∀ m, s.depth ≤ m + 1 → ∀ i ∈ s.heads, ∀ w, Sat C H w → wpOp P ops.toArray Q i (fun a' w' => ∃ H', anyX P ops.toArray Q C m (l.setIfInBounds i true) a' H' ∧ Sat C H' w') a w)
  | .fin, fr, H, nx, l, a, n, h, hA, hs, hd => by
    refine ⟨fun hok => ?_, fun hok => by simp [Sch.okB] at hok⟩
    simp only [Sch.okB, List.isEmpty_iff] at hok
    cases n with
    | zero => exact ⟨hok, fun w hS => hK _ _ _ _ _ h hA hS hs⟩
    | succ n => exact ⟨fun _ w hS => hK _ _ _ _ _ h hA hS hs, fun i hi => (by rw [hok] at hi; cases hi)⟩
  | .stop, fr, H, nx, l, a, n, h, hA, hs, hd => by
    refine ⟨fun hok => by simp [Sch.okB] at hok, fun hok m hm i hi => by cases hi⟩
  | .case t vals r, fr, H, nx, l, a, n, h, hA, hs, hd => by
    simp only [exSch] at h
    split at h
    · rename_i t' k x hx
      have hk := case_to _ h.1 h.2
      have ih := exSch_sound hE raw ops S hro I hW K hsel hQ hK r _ H nx l a n hk (hA.again hx) hs hd
      exact ⟨fun hok => ih.1 hok, fun hok => by simp [Sch.okB] at hok⟩
    · exact h.elim
  | .take i r, fr, H, nx, l, a, n, h, hA, hs, hd => by
    refine ⟨fun hok => ?_, fun hok => by simp [Sch.okB] at hok⟩
    simp only [Sch.okB, Bool.and_eq_true] at hok
    obtain ⟨⟨k1, k2⟩, k3⟩ := hok
    simp only [exSch] at h
    split at h
    · rename_i o ho
      split at h
      · rename_i G hG
        obtain ⟨hw, hO⟩ := chain_sound hA hG
        split at h
        · exact h.elim
        · rename_i hdst
          split at h
          · rename_i ps v hp
            obtain ⟨h1, h2⟩ := allP_to _ _ _ h
            have h2 := putF_to h2
            simp only [Sch.depth] at hd
            cases n with
            | zero => omega
            | succ n =>
              have hread : i ∈ Region.ready .any ops.toArray l := by simpa using k1
              by_cases hc : condB G = true
              · have hq : ∀ w, Kept C w → v.wf ∧ o.quietAt P a (Sat (Own w) S) w v.den := fun w hw' => by
                  obtain ⟨q1, q2⟩ := pstep_sound hE hA hO ((condB_iff G).2 hc) hp (h1 ((condB_iff G).2 hc)) (hro w hw')
                  exact ⟨q1, q2 w (hro w hw')⟩
                by_cases hex : ∃ w, Sat C H w
                · obtain ⟨w0, hw0⟩ := hex
                  have hvw := (hq w0 hw0.kept).1
                  have hput := hA.put hO hdst (fun _ => hvw)
                  rw [if_pos hc] at hput
                  exact anyX_first hro (nth_toArray ho) hsel hQ n l a H (Region.free_spec (nth_toArray ho) k2) hread (.inl ⟨by rw [hw]; exact hc, fun w hw' => (hq w hw').2⟩)
                    ((exSch_sound hE raw ops S hro I hW K hsel hQ hK r _ H nx _ _ n h2 hput (hW a _ o (nth_mem ho) hs) (by omega)).1 k3)
                · exact ⟨fun hr => (by rw [hr] at hread; cases hread), fun j hj w hS => absurd ⟨w, hS⟩ hex⟩
              · have hput := hA.put (v := v) hO hdst (fun q => absurd q hc)
                rw [if_neg hc] at hput
                exact anyX_first hro (nth_toArray ho) hsel hQ n l a H (Region.free_spec (nth_toArray ho) k2) hread (.inr ⟨by rw [hw]; simpa using hc, rfl⟩)
                  ((exSch_sound hE raw ops S hro I hW K hsel hQ hK r _ H nx _ _ n h2 hput (hW a _ o (nth_mem ho) hs) (by omega)).1 k3)
          · exact h.elim
      · exact h.elim
    · exact h.elim
  | .br i r m, fr, H, nx, l, a, n, h, hA, hs, hd => by
    have hd' : r.depth + 1 ≤ n ∧ m.depth ≤ n := by
      simp only [Sch.depth] at hd
      have h1 : r.depth + 1 ≤ Nat.max (r.depth + 1) m.depth := Nat.le_max_left ..
      have h2 : m.depth ≤ Nat.max (r.depth + 1) m.depth := Nat.le_max_right ..
      omega
    simp only [exSch] at h
    obtain ⟨h, hm'⟩ := h
    have hm : exSch E N raw ops S K m fr H nx := by
      cases m with
      | stop => simp [exSch]
      | _ => exact hm'
    have one : ∀ k, r.depth ≤ k → Sch.okB ops.toArray true r (l.setIfInBounds i true) = true → ∀ w, Sat C H w → wpOp P ops.toArray Q i (fun a' w' => ∃ H', anyX P ops.toArray Q C k (l.setIfInBounds i true) a' H' ∧ Sat C H' w') a w := by
      intro k hk hok w hS
      split at h
      · rename_i o ho
        unfold Go.wpOp
        simp only [nth_toArray ho]
        split at h
        · rename_i G hG
          obtain ⟨hw, hO⟩ := chain_sound hA hG
          rw [hw]
          split at h
          · exact h.elim
          · rename_i hdst
            split at h
            · rename_i ps v hp
              obtain ⟨h1, h2⟩ := allP_to _ _ _ h
              have h2 := putF_to h2
              by_cases hc : condB G = true
              · rw [if_pos hc]
                left
                obtain ⟨hvw, hq⟩ := pstep_sound hE hA hO ((condB_iff G).2 hc) hp (h1 ((condB_iff G).2 hc)) hS
                have hput := hA.put hO hdst (fun _ => hvw)
                rw [if_pos hc] at hput
                exact wp_of_quietAt hS (hq w hS) (fun w' hw' => ⟨H, (exSch_sound hE raw ops S hro I hW K hsel hQ hK r _ H nx _ _ k h2 hput (hW a _ o (nth_mem ho) hs) hk).1 hok, hw'⟩)
              · rw [if_neg hc]
                have hput := hA.put (v := v) hO hdst (fun q => absurd q hc)
                rw [if_neg hc] at hput
                exact ⟨H, (exSch_sound hE raw ops S hro I hW K hsel hQ hK r _ H nx _ _ k h2 hput (hW a _ o (nth_mem ho) hs) hk).1 hok, hS⟩
            · cases G with
              | nil =>
                rw [if_pos (by rfl)]
                left
                exact estep_wp hE hA hS (G := []) trivial trivial hdst h (fun v H' nx' w' u hk' hS' hA' => (by
                  rw [Hp.fo_iff] at hk'
                  exact ⟨H', (exSch_sound hE raw ops S hro I hW K hsel hQ hK r _ H' nx' _ _ k (putF_to hk') hA' (hW a _ o (nth_mem ho) hs) hk).1 hok, hS'⟩))
              | cons g0 G' =>
                obtain ⟨h1, h2⟩ := h
                by_cases hc : condB (g0 :: G') = true
                · rw [if_pos hc]
                  left
                  have hGh := (condB_iff _).2 hc
                  exact estep_wp hE hA hS hO hGh hdst (h1 hGh) (fun v H' nx' w' u hk' hS' hA' => (by
                    rw [Hp.fo_iff] at hk'
                    exact ⟨H', (exSch_sound hE raw ops S hro I hW K hsel hQ hK r _ H' nx' _ _ k (putF_to hk') hA' (hW a _ o (nth_mem ho) hs) hk).1 hok, hS'⟩))
                · rw [if_neg hc]
                  have hput := hA.put (v := .bool false) hO hdst (fun q => absurd q hc)
                  rw [if_neg hc] at hput
                  exact ⟨H, (exSch_sound hE raw ops S hro I hW K hsel hQ hK r _ H nx _ _ k (putF_to (h2 fun q => hc ((condB_iff _).1 q))) hput (hW a _ o (nth_mem ho) hs) hk).1 hok, hS⟩
        · exact h.elim
      · exact h.elim
    refine ⟨fun hok => ?_, fun hok k hk j hj w hS => ?_⟩
    · simp only [Sch.okB, Bool.and_eq_true, beq_iff_eq] at hok
      obtain ⟨⟨k1, k2⟩, k3⟩ := hok
      cases n with
      | zero => omega
      | succ n =>
        refine ⟨fun hr => (by rw [hr] at k1; cases k1), fun j hj w hS => ?_⟩
        rw [k1] at hj
        rcases List.mem_cons.1 hj with hj | hj
        · subst hj
          exact one n (by omega) k2 w hS
        · exact (exSch_sound hE raw ops S hro I hW K hsel hQ hK m fr H nx l a (n + 1) hm hA hs hd'.2).2 k3 n hd'.2 j hj w hS
    · simp only [Sch.okB, Bool.and_eq_true] at hok
      simp only [Sch.depth] at hk
      have h1 : r.depth + 1 ≤ Nat.max (r.depth + 1) m.depth := Nat.le_max_left ..
      have h2 : m.depth ≤ Nat.max (r.depth + 1) m.depth := Nat.le_max_right ..
      simp only [Sch.heads] at hj
      rcases List.mem_cons.1 hj with hj | hj
      · subst hj
        exact one k (by omega) hok.1 w hS
      · exact (exSch_sound hE raw ops S hro I hW K hsel hQ hK m fr H nx l a n hm hA hs hd'.2).2 hok.2 k (by omega) j hj w hS

/-! ### loops -/
/-- A loop with a ghost state. -/
theorem wp_loop_w {X : Type} {c : Code} {r : X → X → Prop} (hr : WellFounded r) (I : X → Act → World → Prop) (x0 : X) (h0 : I x0 a w)
    (round : ∀ x a w, I x a w → c.wp P (Exit.then (fun a' w' => ∃ y, I y a' w' ∧ r y x) Q) a w) : (Code.loop c).wp P Q a w := by
  intro b k cs
  have key : ∀ x a w, I x a w →
      ∃ e a' w', Q e a' w' ∧ Arrives P (lone (b.at a (.code c :: .inLoop c :: k)) cs w) b k cs e a' w' := by
    intro x
    induction x using hr.induction with
    | _ x ih =>
      intro a w hI
      obtain ⟨e, a₁, w₁, hq, harr⟩ := round x a w hI b (.inLoop c :: k) cs
      cases e with
      | normal =>
        obtain ⟨y, hI₁, hlt⟩ := hq
        obtain ⟨e₂, a₂, w₂, hq₂, harr₂⟩ := ih y hlt a₁ w₁ hI₁
        exact ⟨e₂, a₂, w₂, hq₂, .of_steps (Steps.trans harr (.one step_inLoop)) harr₂⟩
      | exit id => exact ⟨_, a₁, w₁, hq, .pass (x := .inLoop c) rfl (fun _ _ => .inl (by simp)) harr⟩
      | goto l => exact ⟨_, a₁, w₁, hq, .pass (x := .inLoop c) rfl (fun _ _ => .inl (by simp)) harr⟩
      | ret => exact ⟨_, a₁, w₁, hq, .pass (x := .inLoop c) rfl (fun _ _ => .inl (by simp)) harr⟩
      | panic ch => exact ⟨_, a₁, w₁, hq, .pass (x := .inLoop c) rfl (fun _ _ => .inl (by simp)) harr⟩
      | outgrown => exact ⟨_, a₁, w₁, hq, .pass (x := .inLoop c) rfl (fun _ _ => .inl (by simp)) harr⟩
  obtain ⟨e, a', w', hq, harr⟩ := key x0 a w h0
  exact ⟨e, a', w', hq, .of_steps (.one step_loop) harr⟩
theorem wp_loop_x {X : Type} {c : Code} (I : X → Act → World → Prop) (μ : X → Nat) (x0 : X) (h0 : I x0 a w)
    (round : ∀ x a w, I x a w → c.wp P (Exit.then (fun a' w' => ∃ y, I y a' w' ∧ μ y < μ x) Q) a w) : (Code.loop c).wp P Q a w :=
  wp_loop_w (InvImage.wf μ Nat.lt_wfRel.wf) I x0 h0 round
/-- The order of Option: first none, then the values by a measure. -/
def optLt {X : Type} (μ : X → Nat) : Option X → Option X → Prop
  | some _, none => True
  | some y, some x => μ y < μ x
  | none, _ => False
theorem optLt_wf {X : Type} (μ : X → Nat) : WellFounded (optLt μ) := by
  have hs : ∀ n x, μ x = n → Acc (optLt μ) (some x) := by
    intro n
    induction n using Nat.strongRecOn with
    | _ n ih =>
      intro x hx
      refine Acc.intro _ fun y hy => ?_
      cases y with
      | none => exact hy.elim
      | some y => exact ih (μ y) (hx ▸ hy) y rfl
  refine ⟨fun x => ?_⟩
  cases x with
  | some x => exact hs _ x rfl
  | none =>
    refine Acc.intro _ fun y hy => ?_
    cases y with
    | none => exact hy.elim
    | some y => exact hs _ y rfl
/-- A loop whose first round stands apart. -/
theorem wp_loop_o {X : Type} {c : Code} (I : X → Act → World → Prop) (μ : X → Nat)
    (h0 : c.wp P (Exit.then (fun a' w' => ∃ y, I y a' w') Q) a w)
    (round : ∀ x a w, I x a w → c.wp P (Exit.then (fun a' w' => ∃ y, I y a' w' ∧ μ y < μ x) Q) a w) : (Code.loop c).wp P Q a w := by
  refine wp_loop_w (optLt_wf μ) (fun o a' w' => match o with | none => a' = a ∧ w' = w | some y => I y a' w') none ⟨rfl, rfl⟩ ?_
  intro x a' w' hI
  cases x with
  | none =>
    obtain ⟨rfl, rfl⟩ := hI
    refine Code.wp_mono (fun e a w q => ?_) h0
    cases e with
    | normal => obtain ⟨y, hy⟩ := q; exact ⟨some y, hy, trivial⟩
    | _ => exact q
  | some x =>
    refine Code.wp_mono (fun e a w q => ?_) (round x a' w' hI)
    cases e with
    | normal => obtain ⟨y, hy, hl⟩ := q; exact ⟨some y, hy, hl⟩
    | _ => exact q

theorem allTrue_append {l m : List Ob} (h : allTrue (l ++ m)) : allTrue l ∧ allTrue m := by
  induction l with
  | nil => exact ⟨trivial, h⟩
  | cons p l ih =>
    cases p with
    | c b => exact ⟨⟨h.1, (ih h.2).1⟩, (ih h.2).2⟩
    | p q => exact ⟨⟨h.1, (ih h.2).1⟩, (ih h.2).2⟩
theorem SVeq.of_eq {u v : SV} (h : u = v) : SVeq u v := by subst h; exact ⟨rfl, rfl, rfl, fun h => h⟩
theorem sv_nt {u v : SV} (h : SVeq u v) (hu : u.wf) (hn : u.nt = true) : v.nt = true := by
  have hd := h.den
  cases hv : v.nt with
  | true => rfl
  | false =>
    exfalso
    have hvw := h.wf hu
    cases v <;> simp [SV.nt] at hv
    · cases u <;> simp [SV.den, SV.nt, SV.wf] at hd hn hu
      subst hd
      exact hu
    · exact hvw
theorem conj_to : ∀ {ps : List Prop} {k : Prop}, conjP ps k → k
  | [], _, h => h
  | _ :: _, _, h => conj_to h.2
theorem eqPath_sound : ∀ (p q : List PS) (ps : List Prop) (k : Prop), eqPath p q = some ps → conjP ps k → pathOff p = pathOff q
  | [], [], ps, k, h, _ => rfl
  | [], _ :: _, ps, k, h, _ => by simp [eqPath] at h
  | .elt i wd :: r, [], ps, k, h, _ => by simp [eqPath] at h
  | .fld i wd :: r, [], ps, k, h, _ => by simp [eqPath] at h
  | .elt i wd :: r, .fld j wd' :: q, ps, k, h, _ => by simp [eqPath] at h
  | .fld i wd :: r, .elt j wd' :: q, ps, k, h, _ => by simp [eqPath] at h
  | .elt i wd :: r, .elt j wd' :: q, ps, k, h, hk => by
    simp only [eqPath] at h
    split at h
    · rename_i hw
      split at h
      · rename_i ps' hp
        split at h
        · injection h with h
          subst h
          have e := beqN hw
          subst e
          simp only [pathOff, PS.off, eqPath_sound r q ps' k hp hk, Nat.mul_zero]
        · injection h with h
          subst h
          obtain ⟨h1, h2⟩ := hk
          simp only [pathOff, PS.off, eqPath_sound r q ps' k hp h2, beqN hw, h1]
      · cases h
    · cases h
  | .fld i o :: r, .fld j o' :: q, ps, k, h, hk => by
    simp only [eqPath] at h
    split at h
    · rename_i hw
      simp only [pathOff, PS.off, eqPath_sound r q ps k h hk, beqN hw]
    · cases h
theorem eqv0_sound (u v : SV) (h : eqv0 u v) : SVeq u v := by
  unfold eqv0 at h
  split at h
  · split at h
    · rename_i hk
      subst h
      rw [kindEq_true hk]
      exact SVeq.of_eq rfl
    · exact h.elim
  · subst h; exact SVeq.of_eq rfl
  · subst h; exact SVeq.of_eq rfl
  · split at h
    · rename_i qs hq
      obtain ⟨h1, h2⟩ := conj_to h
      have h3 := eqPath_sound _ _ _ _ hq h
      subst h1 h2
      exact ⟨by simp only [SV.den, h3], by simp only [SV.flat, h3], rfl, fun _ => trivial⟩
    · exact h
  · split at h
    · rename_i hw
      split at h
      · rename_i qs hq
        obtain ⟨h1, h2, h4, h5, h6, h7⟩ := conj_to h
        have h3 := eqPath_sound _ _ _ _ hq h
        have hw := beqN hw
        subst h1 h2 h4 h5 h6 h7 hw
        exact ⟨by simp only [SV.den, h3], by simp only [SV.flat, h3], rfl, fun h => h⟩
      · exact h
    · exact h
  · subst h
    exact ⟨rfl, rfl, rfl, fun h => h⟩
  · exact h
theorem eqvP_sound {f : SV → SV → Prop} (hf : ∀ u v, f u v → SVeq u v) : ∀ (l m : List SV), eqvP f l m → SV.flatL l = SV.flatL m ∧ SV.sz.szL l = SV.sz.szL m ∧ (SV.wfA l → SV.wfA m) ∧ SV.denL l = SV.denL m ∧ (SV.wfL l → SV.wfL m)
  | [], [], _ => ⟨rfl, rfl, fun h => h, rfl, fun h => h⟩
  | [], _ :: _, h => by simp [eqvP] at h
  | _ :: _, [], h => by simp [eqvP] at h
  | u :: l, v :: m, h => by
    have h' : f u v ∧ eqvP f l m := by
      cases l with
      | nil =>
        cases m with
        | nil => simp only [eqvP] at h; exact ⟨h, by simp [eqvP]⟩
        | cons a b => simp [eqvP] at h
      | cons a b => simp only [eqvP] at h; exact h
    have s1 := hf u v h'.1
    obtain ⟨s2, s3, s4, s5, s6⟩ := eqvP_sound hf l m h'.2
    exact ⟨by simp only [SV.flatL, s1.flat, s2], by simp only [SV.sz.szL, s1.sz, s3], fun hw => ⟨s1.wf hw.1, sv_nt s1 hw.1 hw.2.1, s4 hw.2.2⟩, by simp only [SV.denL, s1.den, s5], fun hw => ⟨s1.wf hw.1, s6 hw.2⟩⟩
theorem eqvU_sound {f : SV → SV → Prop} (hf : ∀ u v, f u v → SVeq u v) {l m : List SV} (h : eqvP f l m) : SVeq (.agg l) (.agg m) ∧ SVeq (.tup l) (.tup m) := by
  obtain ⟨h1, h2, h3, h4, h5⟩ := eqvP_sound hf l m h
  exact ⟨⟨by simp only [SV.den, h1], by simp only [SV.flat, h1], by simp only [SV.sz, h2], h3⟩, ⟨by simp only [SV.den, h4], by simp only [SV.flat, h4], rfl, h5⟩⟩
theorem eqv1_sound (u v : SV) (h : eqv1 u v) : SVeq u v := by
  unfold eqv1 at h
  split at h
  · exact (eqvU_sound eqv0_sound h).1
  · exact (eqvU_sound eqv0_sound h).2
  · exact eqv0_sound _ _ h
theorem eqv2_sound (u v : SV) (h : eqv2 u v) : SVeq u v := by
  unfold eqv2 at h
  split at h
  · exact (eqvU_sound eqv1_sound h).1
  · exact (eqvU_sound eqv1_sound h).2
  · exact eqv0_sound _ _ h
theorem eqv3_sound (u v : SV) (h : eqv3 u v) : SVeq u v := by
  unfold eqv3 at h
  split at h
  · exact (eqvU_sound eqv2_sound h).1
  · exact (eqvU_sound eqv2_sound h).2
  · exact eqv0_sound _ _ h
theorem eqv_sound (u v : SV) (h : eqv u v) : SVeq u v := by
  unfold eqv at h
  split at h
  · exact (eqvU_sound eqv3_sound h).1
  · exact (eqvU_sound eqv3_sound h).2
  · exact eqv0_sound _ _ h

theorem agrees_sound (hA : Has N fr a) : ∀ (ss : List Nat) (vs : List SV) (k : Prop), agrees fr ss vs k → k ∧ ∀ s e, (zipFr ss vs).find s = some e → e.gd = [] ∧ a.tmps[s]? = some e.v.den ∧ e.v.wf
  | [], [], k, h => ⟨h, fun s e he => by simp [zipFr, Fr.find] at he⟩
  | [], _ :: _, k, h => by simp [agrees] at h
  | _ :: _, [], k, h => by simp [agrees] at h
  | s0 :: r, v :: l, k, h => by
    simp only [agrees] at h
    obtain ⟨h1, h2⟩ := h
    obtain ⟨g1, g2⟩ := agrees_sound hA r l k h2
    refine ⟨g1, fun s e he => ?_⟩
    simp only [zipFr, Fr.find_cons] at he
    split at he
    · rename_i hs
      injection he with he
      subst he
      have e1 : s0 = s := by simpa using hs
      subst e1
      split at h1
      · rename_i s1 u hu
        have hq := eqv_sound u v h1
        obtain ⟨q1, q2, _⟩ := hA.slot s0 _ hu
        simp only [condB, if_true] at q1 q2
        exact ⟨rfl, by rw [← hq.den]; exact q1, hq.wf (q2 trivial)⟩
      · exact h1.elim
    · exact g2 s e he
theorem keepFr_sub : ∀ (fr : Fr) (kill : List Nat) (s : Nat) (e : FE), (keepFr kill fr).find s = some e → fr.find s = some e ∧ e.gd = [] ∧ memN s kill = false
  | [], kill, s, e, h => by simp [keepFr, Fr.find] at h
  | x :: r, kill, s, e, h => by
    simp only [keepFr_cons] at h
    split at h
    · rename_i hm
      obtain ⟨h1, h2, h3⟩ := keepFr_sub r kill s e h
      refine ⟨?_, h2, h3⟩
      simp only [Fr.find_cons]
      split
      · rename_i hs
        have e1 : x.s = s := by simpa using hs
        rw [e1, h3] at hm
        cases hm
      · exact h1
    · rename_i hm
      split at h
      · rename_i hg
        simp only [Fr.find_cons] at h ⊢
        split at h
        · rename_i hs
          injection h with h
          subst h
          have e1 : x.s = s := by simpa using hs
          exact ⟨rfl, hg, by rw [← e1]; exact hm⟩
        · obtain ⟨h1, h2, h3⟩ := keepFr_sub r _ s e h
          refine ⟨h1, h2, ?_⟩
          simp only [memN] at h3
          split at h3
          · cases h3
          · exact h3
      · obtain ⟨h1, h2, h3⟩ := keepFr_sub r _ s e h
        simp only [memN] at h3
        split at h3
        · cases h3
        · rename_i hs
          refine ⟨?_, h2, h3⟩
          simp only [Fr.find_cons]
          split
          · rename_i hs'
            have e1 : x.s = s := by simpa using hs'
            rw [e1] at hs
            simp at hs
          · exact h1
theorem find_append : ∀ (D F : Fr) (s : Nat), (D ++ F).find s = match D.find s with | some e => some e | none => F.find s
  | [], F, s => rfl
  | x :: r, F, s => by
    simp only [List.cons_append, Fr.find_cons]
    split
    · rfl
    · exact find_append r F s
/-- A frame of two parts, each of which stands. -/
theorem head_has (hN : a.tmps.size = N) {D F : Fr} (h1 : ∀ s e, D.find s = some e → e.gd = [] ∧ a.tmps[s]? = some e.v.den ∧ e.v.wf) (h2 : ∀ s e, F.find s = some e → e.gd = [] ∧ a.tmps[s]? = some e.v.den ∧ e.v.wf) : Has N (Fr.app D F) a := by
  rw [frapp_eq]
  refine ⟨hN, fun s e he => ?_⟩
  rw [find_append] at he
  have key : e.gd = [] ∧ a.tmps[s]? = some e.v.den ∧ e.v.wf := by
    split at he
    · rename_i x hx
      injection he with he
      subst he
      exact h1 s _ hx
    · exact h2 s e he
  rw [key.1]
  exact ⟨key.2.1, fun _ => key.2.2, trivial⟩

theorem entLe_ok {e' e : Ent} (h : entLe e' e) (hO : EntOk C w e') : EntOk C w e ∧ e'.own = true ∧ e.own = true ∧ e'.z = e.z ∧ e'.b = e.b ∧ e'.fam = none ∧ e.fam = none := by
  unfold entLe at h
  split at h
  · rename_i o1 f1 o2 f2
    split at h
    · rename_i w1 t1 n1
      obtain ⟨⟨h1, h2, hz, h4, h5, h6⟩, h9⟩ := h
      have w1 := beqN w1
      have t1 := beqN t1
      have hone : e.one = true → e.n ≤ 1 := fun q => by
        rw [q] at n1
        exact Nat.le_of_ble_eq_true n1
      have hel : ∀ i, i < e.n → SVeq (e'.get i) (e.get i) := fun i hi => by
        revert h9
        cases ho : e.one with
        | true =>
          intro h9
          have := hone ho
          obtain rfl : i = 0 := by omega
          exact eqv_sound _ _ h9
        | false => intro h9; exact eqv_sound _ _ (h9 i hi)
      refine ⟨⟨hone, fun q => (by rw [o2] at q; cases q), fun hzz => ?_, fun _ hf _ => ?_, fun f hf => (by rw [f2] at hf; cases hf), fun f hf => (by rw [f2] at hf; cases hf), fun i hi => ?_⟩, o1, o2, hz, h1, f1, f2⟩
      · have := hO.z (by rw [hz]; exact hzz)
        omega
      · obtain ⟨q1, q2, cs, fz, q3, q4, q5⟩ := hO.ow o1 (by rw [hz]; exact hf) f1
        refine ⟨by rw [← h1]; exact q1, h5, cs, fz, by rw [← h1, ← t1]; exact q3, ?_, q5⟩
        rw [← h2, ← w1]
        exact Nat.le_trans (Nat.add_le_add_left (Nat.mul_le_mul_right _ h6) _) q4
      · obtain ⟨r1', rn, r2⟩ := hO.row i (by omega)
        rw [f1] at r2 rn
        have r1 := wfF_wf r1' (isM_nt rn)
        rw [f2]
        have hq := hel i hi
        refine ⟨.inl (hq.wf r1), sv_nt hq r1 rn, by rw [← hq.sz, r2.1, w1], fun k hk => ?_⟩
        rw [← h1, ← h2, ← w1, ← hq.flat]
        exact r2.2 k (by rw [hq.sz]; exact hk)
    · exact h.elim
  · exact h.elim
theorem memN_false {g : Nat} : ∀ (l : List Nat), memN g l = false → ∀ x ∈ l, x ≠ g
  | [], _, x, h => by cases h
  | y :: r, hf, x, h => by
    simp only [memN] at hf
    split at hf
    · cases hf
    · rename_i hb
      rcases List.mem_cons.1 h with h | h
      · subst h
        rintro rfl
        simp at hb
      · exact memN_false r hf x h
theorem nodup_pair {ren : List (Nat × Nat)} : ∀ (D : Hp) (l : List Nat), nodupG ren D l = true → (D.Pairwise fun e e' => renG ren e.g ≠ renG ren e'.g) ∧ ∀ e ∈ D, ∀ x ∈ l, x ≠ renG ren e.g
  | [], _, _ => ⟨List.Pairwise.nil, fun _ h => by cases h⟩
  | x :: r, l, h => by
    simp only [nodupG] at h
    split at h
    · cases h
    · rename_i hh
      obtain ⟨h1, h2⟩ := nodup_pair r _ h
      refine ⟨List.pairwise_cons.2 ⟨fun e he => h2 e he _ (List.mem_cons_self ..), h1⟩, fun e he y hy => ?_⟩
      rcases List.mem_cons.1 he with he | he
      · rw [he]; exact memN_false l hh y hy
      · exact h2 e he y (List.mem_cons_of_mem _ hy)
/-- Where an entry of the list comes from. -/
def FromHp (H : Hp) (ren : List (Nat × Nat)) (cl : List Nat) (e : Ent) : Prop :=
  (∃ e', H.find (renG ren e.g) = some e' ∧ entLe e' e) ∨ (e.own = true ∧ e.fam = none ∧ e.z = true ∧ e.n = 0 ∧ e.cap = 0) ∨
  (e.own = true ∧ ∃ f, e.fam = some f ∧ ∀ i, i < e.n → famSrcs (famHead (H.find (renG ren e.g)) ++ famCands cl e.t H) e f i)
theorem hpAgrees_mem {ren : List (Nat × Nat)} {cl : List Nat} : ∀ (D : Hp) (k : Prop), hpAgrees H ren cl D k → k ∧ ∀ e ∈ D, FromHp H ren cl e
  | [], k, h => ⟨h, fun e he => by cases he⟩
  | x :: r, k, hD => by
    simp only [hpAgrees] at hD
    obtain ⟨h1, h2⟩ := hD
    obtain ⟨g1, g2⟩ := hpAgrees_mem r k h2
    refine ⟨g1, fun e h => ?_⟩
    rcases List.mem_cons.1 h with h | h
    · subst h
      split at h1
      · rename_i f o1 f1
        exact .inr (.inr ⟨o1, f, f1, h1⟩)
      · split at h1
        · rename_i e' he'
          exact .inl ⟨e', he', h1⟩
        · split at h1
          · rename_i q1 q2
            exact .inr (.inl ⟨q1, q2, h1⟩)
          · exact h1.elim
    · exact g2 e h
theorem pair_mem : ∀ (H : Hp), H.Pairwise Ap → ∀ e ∈ H, ∀ e' ∈ H, e.g ≠ e'.g → Ap e e'
  | H, hp, e, he, e', he', hne => pairwise_all (fun _ _ q => q.symm) hp e he e' he' (fun q => hne (by rw [q]))
theorem famCands_mem {cl : List Nat} {t : TypeId} : ∀ {H : Hp} {c : Ent}, c ∈ famCands cl t H → c ∈ H ∧ c.own = true ∧ c.t = t ∧ memN c.g cl = false
  | [], c, h => by cases h
  | e :: r, c, h => by
    simp only [famCands] at h
    have ih : c ∈ famCands cl t r → c ∈ e :: r ∧ c.own = true ∧ c.t = t ∧ memN c.g cl = false := fun q => ⟨List.mem_cons_of_mem _ (famCands_mem q).1, (famCands_mem q).2⟩
    split at h
    · rename_i q1
      split at h
      · rename_i q2
        split at h
        · exact ih h
        · rename_i q4
          rcases List.mem_cons.1 h with h | h
          · subst h
            exact ⟨List.mem_cons_self .., q1, beqN q2, q4⟩
          · exact ih h
      · exact ih h
    · exact ih h
theorem famHead_mem {o : Option Ent} {c : Ent} (h : c ∈ famHead o) : o = some c ∧ c.own = true ∧ ∃ f, c.fam = some f := by
  unfold famHead at h
  split at h
  · rename_i e
    split at h
    · rename_i ho
      split at h
      · rename_i f hf
        rw [List.mem_singleton] at h
        subst h
        exact ⟨rfl, ho, f, hf⟩
      · cases h
    · cases h
  · cases h
theorem famSrcs_mem : ∀ {l : List Ent} {e : Ent} {f : Nat → Nat × Nat} {i : Nat}, famSrcs l e f i → ∃ e' ∈ l, famSrc e' e f i
  | [], _, _, _, h => h.elim
  | [x], _, _, _, h => ⟨x, List.mem_cons_self .., h⟩
  | x :: y :: r, _, _, _, h => by
    rcases h with h | h
    · exact ⟨x, List.mem_cons_self .., h⟩
    · obtain ⟨e', h1, h2⟩ := famSrcs_mem h
      exact ⟨e', List.mem_cons_of_mem _ h1, h2⟩
theorem flatMap_congr_range {f g : Nat → List Value} : ∀ n, (∀ i, i < n → f i = g i) → (List.range n).flatMap f = (List.range n).flatMap g
  | 0, _ => rfl
  | n + 1, h => by
    rw [List.range_succ, List.flatMap_append, List.flatMap_append, flatMap_congr_range n fun i hi => h i (by omega)]
    simp [h n (by omega)]
theorem eqvA_sound {u v : SV} (h : eqvA u v) : SVeq u v := by
  unfold eqvA at h
  split at h
  · exact ⟨rfl, rfl, rfl, fun h => h⟩
  · exact h.elim
  · exact h.elim
  · rename_i n wd f n' wd' g
    split at h
    · rename_i hw
      have hw := beqN hw
      subst hw
      obtain ⟨rfl, h⟩ := h
      have hq : ∀ k, k < n → SVeq (f k) (g k) := fun k hk => eqv_sound _ _ (h k hk)
      have hfl : (List.range n).flatMap (fun i => (f i).flat) = (List.range n).flatMap (fun i => (g i).flat) := flatMap_congr_range n fun i hi => (hq i hi).flat
      exact ⟨by simp only [SV.den, hfl], by simp only [SV.flat, hfl], rfl, fun hw i hi => by
        obtain ⟨w1, w2, w3⟩ := hw i hi
        exact ⟨(hq i hi).wf w1, by rw [← (hq i hi).sz]; exact w2, sv_nt (hq i hi) w1 w3⟩⟩
    · exact h.elim
  · exact eqv_sound _ _ h
theorem eqvA_mob {u : SV} {h : Int → Bool} {g : Int → SV} (k : eqvA u (.mobj h g)) : ∃ h' g', u = .mobj h' g' ∧ (∀ x, h' x = h x) ∧ ∀ x, h' x = true → SVeq (g' x) (g x) := by
  cases u <;> first
    | (unfold eqvA at k; exact k.elim)
    | skip
  rename_i h' g'
  exact ⟨h', g', rfl, k.1, fun x hx => eqv_sound _ _ (k.2 x hx)⟩
theorem MapIs.eqv {b : Nat} {h h' : Int → Bool} {g g' : Int → SV} (k : MapIs w b h' g') (e1 : ∀ x, h' x = h x) (e2 : ∀ x, h' x = true → SVeq (g' x) (g x)) : MapIs w b h g := by
  obtain ⟨es, clock, h1, h2, h3, h4⟩ := k
  refine ⟨es, clock, h1, h2, fun e he => ?_, fun x hx => ?_⟩
  · obtain ⟨x, x1, x2, x3⟩ := h3 e he
    exact ⟨x, x1, (e1 x).symm.trans x2, x3.trans (e2 x x2).den⟩
  · have hx' : h' x = true := (e1 x).trans hx
    obtain ⟨q1, q2, q3, q4⟩ := h4 x hx'
    have hq := e2 x hx'
    have hw := hq.wf q1
    have hn := sv_nt hq q1 q2
    refine ⟨hw, hn, ?_, q4⟩
    cases ha : (g x).isAgg with
    | false => rfl
    | true =>
      have d1 := den_agg hw ha
      have d2 := hq.den
      rw [d1] at d2
      cases hg : g' x with
      | val v =>
        rw [hg] at d2 q1
        simp only [SV.den] at d2
        subst d2
        exact q1.elim
      | _ => rw [hg] at d2 q3; simp [SV.den, SV.isAgg] at d2 q3
/-- A row of elements, as one value. -/
theorem holds_arr {b off n wd : Nat} {get : Nat → SV} (h : ∀ i, i < n → (get i).wf ∧ (get i).nt = true ∧ (get i).sz = wd ∧ Holds w b (off + i * wd) (get i)) : (SV.arr n wd get).wf ∧ Holds w b off (.arr n wd get) := by
  refine ⟨fun i hi => ⟨(h i hi).1, (h i hi).2.2.1, (h i hi).2.1⟩, fun k hk => ?_⟩
  simp only [SV.sz] at hk
  have hwd : 0 < wd := by
    rcases Nat.eq_zero_or_pos wd with q | q
    · rw [q, Nat.mul_zero] at hk; omega
    · exact q
  have hkd : k / wd < n := by
    rw [Nat.div_lt_iff_lt_mul hwd]; exact hk
  have hkm : k % wd < wd := Nat.mod_lt _ hwd
  have he : k = k / wd * wd + k % wd := by
    have := Nat.div_add_mod k wd
    rw [Nat.mul_comm] at this
    omega
  obtain ⟨_, _, q3, q4⟩ := h (k / wd) hkd
  have := q4 (k % wd) (by rw [q3]; exact hkm)
  rw [show off + k = off + k / wd * wd + k % wd from by omega, this, SV.flat]
  have hg := get_flatMap_range (fun k => (get k).flat) wd n (fun i hi => by rw [len_flat _ (h i hi).1, (h i hi).2.2.1]) (k / wd) (k % wd) hkd hkm
  rw [← he] at hg
  exact hg.symm
theorem famSrc_ok {e' e : Ent} {f : Nat → Nat × Nat} {i : Nat} (h : famSrc e' e f i) (hO : EntOk C w e') :
    (e.get i).wfF ∧ ((e.get i).nt = true ∨ (e.get i).isM = true) ∧ Holds w (f i).1 (f i).2 (e.get i) ∧ ((e.get i).occ → e'.blk (f i).1) ∧ e'.z = false ∧ (∀ h g, e.get i = .mobj h g → MapIs w (f i).1 h g) ∧ ((e.get i).sz ≠ 0 → e'.own = true → WrB w (f i).1) := by
  have tr : ∀ {u : SV} {b o : Nat}, SVeq u (e.get i) → u.wf → u.nt = true → Holds w b o u → (b, o) = f i → (e.get i).wfF ∧ ((e.get i).nt = true ∨ (e.get i).isM = true) ∧ Holds w (f i).1 (f i).2 (e.get i) := fun {u b o} hq h1 h2 h3 h4 => by
    rw [← h4]
    exact ⟨.inl (hq.wf h1), .inl (sv_nt hq h1 h2), fun k hk => by rw [← hq.flat]; exact h3 k (by rw [hq.sz]; exact hk)⟩
  have nomob : ∀ {u : SV}, SVeq u (e.get i) → u.wf → ∀ h g, e.get i = .mobj h g → MapIs w (f i).1 h g := fun {u} hq h1 h g hm => by
    have := hq.wf h1
    rw [hm] at this
    exact this.elim
  unfold famSrc at h
  split at h
  · rename_i f' hf
    obtain ⟨j, h1, h2, h3⟩ := h
    have hq := eqvA_sound h3
    obtain ⟨r1, r2, r3⟩ := hO.row j h1
    rw [hf] at r3
    have hz : e'.z = false := by
      cases hz : e'.z with
      | false => rfl
      | true => have := (hO.z hz).1; omega
    cases hM : (e'.get j).isM with
    | false =>
      have r1 := wfF_wf r1 hM
      have r2 : (e'.get j).nt = true := by
        rw [hf] at r2
        rcases r2 with r2 | r2
        · exact r2
        · rw [hM] at r2; cases r2
      obtain ⟨q1, q2, q3⟩ := tr hq r1 r2 r3 h2
      have hnm : (e.get i).isM = false := isM_nt (sv_nt hq r1 r2)
      exact ⟨q1, q2, q3, fun hs => by
        unfold Ent.blk; rw [hf]
        refine ⟨j, h1, .inl ?_, by rw [h2]⟩
        rcases hs with hs | hs
        · rw [hq.sz]; exact hs
        · rw [hnm] at hs; exact absurd hs (by decide), hz, nomob hq r1, fun hs ho => by
          have := ((hO.fam f' hf j h1 (by rw [hq.sz]; exact hs)).2 ho).2
          rw [h2] at this
          exact this⟩
    | true =>
      obtain ⟨h0, g0, he⟩ := isM_eq hM
      have hblk : e'.blk (f i).1 := by unfold Ent.blk; rw [hf]; exact ⟨j, h1, .inr hM, by rw [h2]⟩
      have hsz : (e.get i).sz = 0 := by rw [← hq.sz, he]; rfl
      cases hM2 : (e.get i).isM with
      | true =>
        refine ⟨.inr hM2, .inr rfl, fun k hk => by omega, fun _ => hblk, hz, fun h g hm => ?_, fun hs => absurd hsz hs⟩
        rw [hm] at h3
        obtain ⟨h', g', e1, e2, e3⟩ := eqvA_mob h3
        have := (hO.mob f' hf j h1 h' g' e1).2.2
        rw [h2] at this
        exact this.eqv e2 e3
      | false =>
        rw [he] at h3
        cases hv : e.get i <;> rw [hv] at h3 hM2 <;> first
          | (cases hM2; done)
          | (unfold eqvA at h3; exact h3.elim)
  · rename_i hf
    split at h
    · obtain ⟨hz, h2, h1, h3⟩ := h
      have hq := eqvA_sound h3
      obtain ⟨r1', r2, r3⟩ := hO.row 0 h1
      rw [hf] at r3 r2
      have r1 := wfF_wf r1' (isM_nt r2)
      have r4 := r3.2
      rw [Nat.zero_mul, Nat.add_zero] at r4
      obtain ⟨q1, q2, q3⟩ := tr hq r1 r2 r4 h2
      exact ⟨q1, q2, q3, fun _ => (blk_none hf).2 (by rw [← h2]), hz, nomob hq r1, fun _ ho => by
        obtain ⟨_, _, cs, fz, c1, _, c2⟩ := hO.ow ho hz hf
        rw [← h2]
        exact ⟨cs, _, fz, c1, c2⟩⟩
    · obtain ⟨hz, h2, h3⟩ := h
      have hq := eqvA_sound h3
      obtain ⟨r1, r2⟩ := holds_arr (w := w) (b := e'.b) (off := e'.off) (n := e'.n) (wd := e'.wd) (get := e'.get) (fun k hk => by
        obtain ⟨r1, r2, r3⟩ := hO.row k hk
        rw [hf] at r3 r2
        exact ⟨wfF_wf r1 (isM_nt r2), r2, r3.1, r3.2⟩)
      obtain ⟨q1, q2, q3⟩ := tr hq r1 rfl r2 h2
      exact ⟨q1, q2, q3, fun _ => (blk_none hf).2 (by rw [← h2]), hz, nomob hq r1, fun _ ho => by
        obtain ⟨_, _, cs, fz, c1, _, c2⟩ := hO.ow ho hz hf
        rw [← h2]
        exact ⟨cs, _, fz, c1, c2⟩⟩
theorem famOk_pair : ∀ (D : Hp) (l : List Nat), famOk D l = true → (D.Pairwise fun e e' => e.own = true → e.fam ≠ none → e'.own = true → e'.fam ≠ none → e.t ≠ e'.t) ∧ ∀ e ∈ D, e.own = true → e.fam ≠ none → e.z = false ∧ e.one = false ∧ ∀ x ∈ l, x ≠ e.t
  | [], _, _ => ⟨List.Pairwise.nil, fun _ h => by cases h⟩
  | x :: r, l, h => by
    simp only [famOk] at h
    split at h
    · rename_i f o1 f1
      split at h
      · cases h
      · rename_i hm
        split at h
        · rename_i z1 n1
          obtain ⟨h1, h2⟩ := famOk_pair r _ h
          refine ⟨List.pairwise_cons.2 ⟨fun e he _ _ eo ef => (h2 e he eo ef).2.2 x.t (List.mem_cons_self ..), h1⟩, fun e he eo ef => ?_⟩
          rcases List.mem_cons.1 he with he | he
          · subst he
            exact ⟨z1, n1, memN_false l hm⟩
          · obtain ⟨a, b, c⟩ := h2 e he eo ef
            exact ⟨a, b, fun y hy => c y (List.mem_cons_of_mem _ hy)⟩
        · cases h
    · rename_i hno
      obtain ⟨h1, h2⟩ := famOk_pair r _ h
      have hx : x.own = true → x.fam ≠ none → False := fun xo xf => by
        cases hf : x.fam with
        | none => exact xf hf
        | some f => exact hno f xo hf
      refine ⟨List.pairwise_cons.2 ⟨fun e he xo xf => (hx xo xf).elim, h1⟩, fun e he eo ef => ?_⟩
      rcases List.mem_cons.1 he with he | he
      · subst he
        exact (hx eo ef).elim
      · exact h2 e he eo ef
theorem claims_mem {ren : List (Nat × Nat)} : ∀ {D : Hp} {e : Ent}, e ∈ D → renG ren e.g ∈ claims ren D
  | x :: r, e, h => by
    rcases List.mem_cons.1 h with h | h
    · subst h; exact List.mem_cons_self ..
    · exact List.mem_cons_of_mem _ (claims_mem h)
theorem hpAgrees_sat {ren : List (Nat × Nat)} {D : Hp} {k : Prop} (hS : Sat C H w) (h : hpAgrees H ren (claims ren D) D k) (hn : nodupG ren D [] = true) (hfo : famOk D [] = true) : Sat C D w ∧ (∀ e ∈ D, e.own = true) ∧ k := by
  obtain ⟨hk, hm⟩ := hpAgrees_mem D k h
  obtain ⟨fp, fz⟩ := famOk_pair D [] hfo
  -- where the blocks of an entry come from
  have hsrc : ∀ e ∈ D, e.z = false → ∀ k, e.blk k → ∃ s ∈ H, s.own = true ∧ s.z = false ∧ s.blk k ∧ (s.g = renG ren e.g ∨ (memN s.g (claims ren D) = false ∧ s.t = e.t ∧ e.own = true ∧ e.fam ≠ none)) := by
    intro e he hz k hb
    rcases hm e he with ⟨e', h1, h2⟩ | ⟨_, _, h3, _⟩ | ⟨ho, f, hf, hs⟩
    · obtain ⟨m1, m2⟩ := find_mem H _ e' h1
      obtain ⟨_, p1, _, p3, p4, p5, p6⟩ := entLe_ok h2 (hS.ents e' m1)
      exact ⟨e', m1, p1, by rw [p3]; exact hz, (blk_none p5).2 (by rw [p4]; exact (blk_none p6).1 hb), .inl m2⟩
    · rw [hz] at h3; cases h3
    · have hb' := hb
      unfold Ent.blk at hb'
      rw [hf] at hb'
      obtain ⟨i, hi, hsz, rfl⟩ := hb'
      obtain ⟨s, hsm, hsf⟩ := famSrcs_mem (hs i hi)
      rcases List.mem_append.1 hsm with q | q
      · obtain ⟨q1, q2, f', q3⟩ := famHead_mem q
        obtain ⟨m1, m2⟩ := find_mem H _ s q1
        have hO := hS.ents s m1
        have hbs := (famSrc_ok hsf hO).2.2.2.1 hsz
        have hz' := (famSrc_ok hsf hO).2.2.2.2.1
        exact ⟨s, m1, q2, hz', hbs, .inl m2⟩
      · obtain ⟨q1, q2, q3, q5⟩ := famCands_mem q
        exact ⟨s, q1, q2, (famSrc_ok hsf (hS.ents s q1)).2.2.2.2.1, (famSrc_ok hsf (hS.ents s q1)).2.2.2.1 hsz, .inr ⟨q5, q3, ho, by rw [hf]; simp⟩⟩
  refine ⟨⟨hS.kept, fun e he => ?_, ?_⟩, fun e he => ?_, hk⟩
  · rcases hm e he with ⟨e', h1, h2⟩ | ⟨h1, h2, h3, h4, h5⟩ | ⟨ho, f, hf, hs⟩
    · exact (entLe_ok h2 (hS.ents e' (find_mem H _ e' h1).1)).1
    · exact ⟨(fun _ => by omega), (fun q => by rw [h1] at q; cases q), (fun _ => ⟨h4, h5⟩), (fun _ q => by rw [h3] at q; cases q), (fun f hf => by rw [h2] at hf; cases hf), (fun f hf => by rw [h2] at hf; cases hf), (fun i hi => by omega)⟩
    · obtain ⟨z1, n1, _⟩ := fz e he ho (by rw [hf]; simp)
      have hsrc' : ∀ i, i < e.n → ∃ s ∈ H, s.own = true ∧ famSrc s e f i := fun i hi => by
        obtain ⟨s, hsm, hsf⟩ := famSrcs_mem (hs i hi)
        rcases List.mem_append.1 hsm with q | q
        · exact ⟨s, (find_mem H _ s (famHead_mem q).1).1, (famHead_mem q).2.1, hsf⟩
        · exact ⟨s, (famCands_mem q).1, (famCands_mem q).2.1, hsf⟩
      refine ⟨(fun q => by rw [n1] at q; cases q), (fun q => by rw [ho] at q; cases q), (fun q => by rw [z1] at q; cases q), (fun _ _ q => by rw [hf] at q; cases q), fun f' hf' i hi hsz => ⟨(fun q => by rw [ho] at q; cases q), fun _ => ?_⟩, fun f' hf' i hi h0 g0 hm0 => ⟨(fun q => by rw [ho] at q; cases q), fun _ => ?_, ?_⟩, fun i hi => ?_⟩
      · rw [hf] at hf'
        injection hf' with hf'
        subst hf'
        obtain ⟨s, sm, so, sz, sb, _⟩ := hsrc e he z1 (f i).1 (by unfold Ent.blk; rw [hf]; exact ⟨i, hi, .inl hsz, rfl⟩)
        obtain ⟨s2, sm2, so2, hsf⟩ := hsrc' i hi
        exact ⟨(hS.ents s sm).own_in so sz sb, (famSrc_ok hsf (hS.ents s2 sm2)).2.2.2.2.2.2 hsz so2⟩
      · rw [hf] at hf'
        injection hf' with hf'
        subst hf'
        obtain ⟨s, sm, so, sz, sb, _⟩ := hsrc e he z1 (f i).1 (by unfold Ent.blk; rw [hf]; exact ⟨i, hi, .inr (by rw [hm0]; rfl), rfl⟩)
        exact (hS.ents s sm).own_in so sz sb
      · rw [hf] at hf'
        injection hf' with hf'
        subst hf'
        obtain ⟨s, sm, so, hsf⟩ := hsrc' i hi
        exact (famSrc_ok hsf (hS.ents s sm)).2.2.2.2.2.1 h0 g0 hm0
      · obtain ⟨s, sm, _, hsf⟩ := hsrc' i hi
        obtain ⟨q1, q2, q3, _⟩ := famSrc_ok hsf (hS.ents s sm)
        rw [hf]
        exact ⟨q1, q2, q3⟩
  · refine List.Pairwise.imp_of_mem (fun {e e'} he he' hne => ?_) ((nodup_pair D [] hn).1.and fp)
    intro ho hz ho' hz' k hb hb'
    obtain ⟨s, sm, so, sz, sb, sc⟩ := hsrc e he hz k hb
    obtain ⟨s', sm', so', sz', sb', sc'⟩ := hsrc e' he' hz' k hb'
    by_cases hss : s = s'
    · subst hss
      rcases sc with sc | sc <;> rcases sc' with sc' | sc'
      · exact hne.1 (sc.symm.trans sc')
      · exact memN_false _ sc'.1 _ (claims_mem he) sc.symm
      · exact memN_false _ sc.1 _ (claims_mem he') sc'.symm
      · exact hne.2 sc.2.2.1 sc.2.2.2 sc'.2.2.1 sc'.2.2.2 (sc.2.1.symm.trans sc'.2.1)
    · exact pairwise_all (fun _ _ q => q.symm) hS.apart s sm s' sm' hss so sz so' sz' k sb sb'
  · rcases hm e he with ⟨e', h1, h2⟩ | ⟨h1, _⟩ | ⟨h1, _⟩
    · exact (entLe_ok h2 (hS.ents e' (find_mem H _ e' h1).1)).2.2.1
    · exact h1
    · exact h1

def toExit : EK → Exit
  | .normal => .normal
  | .exit id => .exit id
  | .ret => .ret
  | .panic v => .panic [{ v := v.den, recovered := false }]

theorem apartOf_to {e : Ent} {F : Hp} (hF : ∀ x ∈ F, Ap e x ∨ x = e) : ∀ {k : Prop}, apartOf e F k → k := by
  induction F with
  | nil => intro k h; exact h
  | cons x r ih =>
    intro k h
    have ih := ih (fun y hy => hF y (List.mem_cons_of_mem _ hy)) (k := k)
    simp only [apartOf] at h
    split at h
    · rename_i f o1 f1 o2 f2
      refine ih (h fun z1 z2 i hi hs q => ?_)
      rcases hF x (List.mem_cons_self ..) with hap | rfl
      · exact hap o1 z1 o2 z2 (f i).1 (by unfold Ent.blk; rw [f1]; exact ⟨i, hi, .inl hs, rfl⟩) ((blk_none f2).2 q)
      · rw [f1] at f2; cases f2
    · exact ih h
theorem apartH_to (hS : Sat C H w) : ∀ {F : Hp} {k : Prop}, (∀ x ∈ F, x ∈ H) → apartH H F k → k := by
  intro F
  induction F with
  | nil => intro k _ h; exact h
  | cons e r ih =>
    intro k hF h
    have ih := ih (k := k) (fun y hy => hF y (List.mem_cons_of_mem _ hy))
    have he := hF e (List.mem_cons_self ..)
    simp only [apartH] at h
    split at h
    · refine ih (apartOf_to (fun x hx => ?_) h)
      by_cases q : x = e
      · exact .inr q
      · exact .inl (pairwise_all (fun _ _ q => q.symm) hS.apart e he x hx (fun q' => q q'.symm))
    · exact ih h
theorem apartQ_to (hS : Sat C H w) {A : List An} {id : Nat} {k : Prop} (h : apartQ A id H k) : k := by
  unfold apartQ at h
  split at h
  · exact apartH_to hS (fun _ q => q) h
  · exact h
/-- A state of a loop's head. -/
theorem meets_sound {L : LA} {x : L.X} {k : Prop} (hA : Has N fr a) (hS : Sat C H w) (h : meets L fr H x k) :
    k ∧ (∀ s e, (zipFr L.slots (L.vals x)).find s = some e → e.gd = [] ∧ a.tmps[s]? = some e.v.den ∧ e.v.wf) ∧ Sat C (L.ents x) w ∧ ∀ e ∈ L.ents x, e.own = true := by
  unfold meets at h
  obtain ⟨h1, h2⟩ := agrees_sound hA _ _ _ h
  split at h1
  · rename_i hn
    split at h1
    · rename_i hfo
      obtain ⟨g1, g2, g3⟩ := hpAgrees_sat hS h1 hn hfo
      exact ⟨g3, h2, g1, g2⟩
    · exact h1.elim
  · exact h1.elim
theorem unfr_all {F D : Hp} (h : ∀ e ∈ D, e.own = true) : unfr F D = Hp.app D F := by
  unfold unfr
  rw [owned_eq, List.filter_eq_self.2 h]
theorem Sat.left {D F : Hp} (h : Sat C (Hp.app D F) w) : Sat C D w := by
  rw [app_eq] at h
  exact ⟨h.kept, fun e he => h.ents e (List.mem_append_left _ he), (List.pairwise_append.1 h.apart).1⟩

/-- The slots that a code writes. -/
def asg : Code → Nat → Prop
  | .region _ ops _, s => ∃ o ∈ ops.toList, o.dst = some s
  | .seq a b, s => asg a s ∨ asg b s
  | .cond _ a b, s => asg a s ∨ asg b s
  | .block _ a, s => asg a s
  | .loop a, s => asg a s
  | .scope a, s => asg a s
  | _, _ => False
theorem memN_cons {s k : Nat} {r : List Nat} : memN s (k :: r) = true ↔ s = k ∨ memN s r = true := by
  simp only [memN]
  split
  · rename_i h; simp [beqN h]
  · rename_i h
    have : s ≠ k := by rintro rfl; simp at h
    simp [this]
theorem asg_mem : ∀ (c : Code) (acc : List Nat) (s : Nat), asg c s ∨ memN s acc = true → memN s (assigned c acc) = true := by
  intro c
  induction c with
  | region id ops d =>
    intro acc s h
    simp only [assigned, asg] at h ⊢
    generalize ops.toList = l at *
    induction l with
    | nil =>
      rcases h with ⟨o, ho, _⟩ | h
      · cases ho
      · exact h
    | cons o l ih =>
      simp only [List.foldr_cons]
      rcases h with ⟨o', ho', hd⟩ | h
      · rcases List.mem_cons.1 ho' with ho' | ho'
        · subst ho'
          rw [hd]
          exact memN_cons.2 (.inl rfl)
        · have := ih (.inl ⟨o', ho', hd⟩)
          split
          · exact memN_cons.2 (.inr this)
          · exact this
      · have := ih (.inr h)
        split
        · exact memN_cons.2 (.inr this)
        · exact this
  | seq a b iha ihb =>
    intro acc s h
    simp only [assigned, asg] at h ⊢
    rcases h with (h | h) | h
    · exact iha _ _ (.inl h)
    · exact iha _ _ (.inr (ihb _ _ (.inl h)))
    · exact iha _ _ (.inr (ihb _ _ (.inr h)))
  | cond c a b iha ihb =>
    intro acc s h
    simp only [assigned, asg] at h ⊢
    rcases h with (h | h) | h
    · exact iha _ _ (.inl h)
    · exact iha _ _ (.inr (ihb _ _ (.inl h)))
    · exact iha _ _ (.inr (ihb _ _ (.inr h)))
  | block id a ih => intro acc s h; simp only [assigned, asg] at h ⊢; exact ih _ _ h
  | loop a ih => intro acc s h; simp only [assigned, asg] at h ⊢; exact ih _ _ h
  | scope a ih => intro acc s h; simp only [assigned, asg] at h ⊢; exact ih _ _ h
  | _ => intro acc s h; simp only [assigned, asg, false_or] at h ⊢; exact h
theorem memN_app {s : Nat} : ∀ (l : List Nat) {r : List Nat}, memN s r = true → memN s (l ++ r) = true
  | [], r, h => h
  | x :: l, r, h => memN_cons.2 (.inr (memN_app l h))
/-- What a code does not write stands as it was. -/
def Unt (c : Code) (a a' : Act) : Prop := (∀ s, ¬ asg c s → a'.tmps[s]? = a.tmps[s]?) ∧ a'.defers = a.defers
theorem Unt.slot {c : Code} {a a' : Act} (h : Unt c a a') : ∀ s, ¬ asg c s → a'.tmps[s]? = a.tmps[s]? := h.1
theorem Unt.defers {c : Code} {a a' : Act} (h : Unt c a a') : a'.defers = a.defers := h.2
theorem Unt.refl (c : Code) (a : Act) : Unt c a a := ⟨fun _ _ => rfl, rfl⟩
theorem Unt.trans {c : Code} {a a' a'' : Act} (h : Unt c a a') (h' : Unt c a' a'') : Unt c a a'' := ⟨fun s hs => (h'.slot s hs).trans (h.slot s hs), h'.defers.trans h.defers⟩
theorem Unt.mono {c c' : Code} {a a' : Act} (h : Unt c a a') (hc : ∀ s, asg c s → asg c' s) : Unt c' a a' := ⟨fun s hs => h.slot s fun q => hs (hc s q), h.defers⟩
theorem unt_wr {id : Nat} {ops : Array Oper} {d : Bool} (a0 : Act) : Wr ops.toList fun a => Unt (.region id ops d) a0 a := by
  intro a v o ho h
  refine ⟨fun s hs => ?_, ?_⟩
  · have hne : o.dst ≠ some s := fun q => hs ⟨o, ho, q⟩
    cases hd : o.dst with
    | none => simpa [Act.put, hd] using h.slot s hs
    | some t =>
      simp only [Act.put]
      rw [Array.getElem?_setIfInBounds_ne (by rintro rfl; exact hne hd)]
      exact h.slot s hs
  · rw [← h.defers]
    cases hd : o.dst <;> rfl
theorem keep_stands (hA : Has N fr a) {c : Code} {ss : List Nat} {a' : Act} (hu : Unt c a a') : ∀ s e, (keepFr (ss ++ assigned c []) fr).find s = some e → e.gd = [] ∧ a'.tmps[s]? = some e.v.den ∧ e.v.wf := by
  intro s e he
  obtain ⟨h1, h2, h3⟩ := keepFr_sub fr _ s e he
  obtain ⟨q1, q2, _⟩ := hA.slot s e h1
  rw [h2] at q1 q2
  simp only [condB, if_true] at q1 q2
  refine ⟨h2, ?_, q2 trivial⟩
  rw [hu.slot s, q1]
  intro hs
  have : memN s (ss ++ assigned c []) = true := memN_app ss (asg_mem c [] s (.inl hs))
  rw [h3] at this
  cases this

theorem exIter_wp {step : Fr → Hp → Nat → (EK → Fr → Hp → Nat → Prop) → Prop} {K : EK → Fr → Hp → Nat → Prop} {c : Code}
    (hstep : ∀ (fr : Fr) (H : Hp) (nx : Nat) (K : EK → Fr → Hp → Nat → Prop) (Q : Exit → Act → World → Prop) (a : Act) (w : World), step fr H nx K → Has N fr a → Sat C H w → (∀ e fr' H' nx' a' w', K e fr' H' nx' → Has N fr' a' → Sat C H' w' → Unt c a a' → Q (toExit e) a' w') → c.wp P Q a w)
    (n : Nat) {nx : Nat} (h : exIter step K n fr H nx) (hA : Has N fr a) (hS : Sat C H w) (hQ : ∀ e fr' H' nx' a' w', K e fr' H' nx' → Has N fr' a' → Sat C H' w' → Unt c a a' → Q (toExit e) a' w') : (Code.loop c).wp P Q a w := by
  refine wp_loop_x (X := Nat) (fun n a' w => ∃ fr H nx, exIter step K n fr H nx ∧ Has N fr a' ∧ Sat C H w ∧ Unt c a a') (fun n => n) n ⟨fr, H, nx, h, hA, hS, Unt.refl _ _⟩ ?_
  rintro m a' w' ⟨fr', H', nx', h', hA', hS', hU⟩
  cases m with
  | zero => exact h'.elim
  | succ m =>
    refine hstep fr' H' nx' _ _ a' w' h' hA' hS' ?_
    intro e f2 H2 n2 a2 w2 hk hA2 hS2 hU2
    cases e with
    | normal =>
      refine ⟨m, ⟨keepFr [] f2, H2, n2, (Fr.fo_iff _ _).1 hk, ⟨hA2.size, fun s e he => ?_⟩, hS2, hU.trans hU2⟩, Nat.lt_succ_self m⟩
      exact hA2.slot s e (keepFr_sub f2 [] s e he).1
    | exit id => exact hQ (.exit id) _ _ _ _ _ hk hA2 hS2 (hU.trans hU2)
    | ret => exact hQ .ret _ _ _ _ _ hk hA2 hS2 (hU.trans hU2)
    | panic v => exact hQ (.panic v) _ _ _ _ _ hk hA2 hS2 (hU.trans hU2)

/-- What holds at the head of a loop. -/
abbrev LInv (N : Nat) (L : LA) (x : Code) (C : Ctx) (fr : Fr) (H : Hp) (a : Act) : L.X → Act → World → Prop := fun y a' w' => L.inv y ∧ Has N (Fr.app (zipFr L.slots (L.vals y)) (keepFr (L.slots ++ assigned x []) fr)) a' ∧ Sat C (Hp.app (L.ents y) (Hp.minus L.tags H)) w' ∧ Unt x a a'
theorem exLoop_inv {step : Fr → Hp → Nat → (EK → Fr → Hp → Nat → Prop) → Prop} {L : LA} {x : Code} {C : Ctx} {fr : Fr} {H : Hp} {nx : Nat} {K : EK → Fr → Hp → Nat → Prop} {Q : Exit → Act → World → Prop} {a : Act} {w : World}
    (ih : ∀ (C : Ctx) (fr : Fr) (H : Hp) (nx : Nat) (K : EK → Fr → Hp → Nat → Prop) (Q : Exit → Act → World → Prop) (a : Act) (w : World), step fr H nx K → Has N fr a → Sat C H w → (∀ e fr' H' nx' a' w', K e fr' H' nx' → Has N fr' a' → Sat C H' w' → Unt x a a' → Q (toExit e) a' w') → x.wp P Q a w)
    (h : exLoop step L (assigned x []) K fr H nx) (hA : Has N fr a) (hS : Sat C H w) (hQ : ∀ e fr' H' nx' a' w', K e fr' H' nx' → Has N fr' a' → Sat C H' w' → Unt x a a' → Q (toExit e) a' w') :
    (∃ x0, LInv N L x C fr H a x0 a w) ∧ ∀ y a' w', LInv N L x C fr H a y a' w' → x.wp P (Exit.then (fun a'' w'' => ∃ z, LInv N L x C fr H a z a'' w'' ∧ L.meas z < L.meas y) Q) a' w' := by
  unfold exLoop at h
  obtain ⟨⟨x0, hx0⟩, hr⟩ := h
  have hS0 := hS.split L.tags
  obtain ⟨s1, s2, s3, s4⟩ := meets_sound hA hS0.frame_in.left hx0
  have hS1 := hS0.unframe s3
  rw [unfr_all s4] at hS1
  refine ⟨⟨x0, s1, head_has hA.size s2 (keep_stands hA (Unt.refl x a)), hS1, Unt.refl _ _⟩, ?_⟩
  rintro y a' w' ⟨hi, hA', hS', hU⟩
  refine ih (Fm w' (L.ents y)) _ _ nx _ _ a' w' ((Hp.fo_iff _ _).1 ((Fr.fo_iff _ _).1 (hr y hi))) hA' hS'.frame_in ?_
  intro e fr' H' nx' a'' w'' hk hA'' hS'' hU'
  have hU2 := hU.trans hU'
  cases e with
  | normal =>
    obtain ⟨y', hm⟩ := hk
    obtain ⟨⟨m0, m5⟩, m2, m3, m4⟩ := meets_sound hA'' hS'' hm
    have hS2 := hS'.unframe m3
    rw [unfr_all m4] at hS2
    exact ⟨y', ⟨m0, head_has hA''.size m2 (keep_stands hA hU2), hS2, hU2⟩, m5⟩
  | exit id => exact hQ (.exit id) _ _ _ _ _ hk hA'' (hS'.unframe hS'') hU2
  | ret => exact hQ .ret _ _ _ _ _ hk hA'' (hS'.unframe hS'') hU2
  | panic v => exact hQ (.panic v) _ _ _ _ _ hk hA'' (hS'.unframe hS'') hU2

theorem sameV_of {u v : SV} (h : u.den = v.den) : sameV u v := by
  cases u <;> cases v <;> simp only [sameV] <;> try trivial
  all_goals simp only [SV.den] at h
  all_goals first
    | (injection h with h1 h2; exact h2)
    | (injection h with h1; exact h1)
    | (injection h with h1; injection h1 with h1; simpa using h1)
    | (simp at h; exact h)
    | (simp at h; exact h.2)
    | (simp at h; exact h.1)
    | (simp at h; exact h.1.1)
theorem sames_to (hA : Has N fr a) {D F : Fr} {x : Code} {a' : Act} (hA' : Has N (Fr.app D F) a') (hU : Unt x a a') : ∀ {ss : List Nat} {k : Prop}, sames fr D (assigned x []) ss k → k
  | [], k, h => h
  | s :: r, k, h => by
    simp only [sames] at h
    split at h
    · exact sames_to hA hA' hU h
    · rename_i hm
      split at h
      · rename_i s1 u hu
        split at h
        · rename_i s2 v hv
          refine sames_to hA hA' hU (h (sameV_of ?_))
          obtain ⟨q1, _, _⟩ := hA.slot s _ hu
          have hf : (Fr.app D F).find s = some ⟨s2, [], v⟩ := by rw [frapp_eq, find_append, hv]
          obtain ⟨r1, _, _⟩ := hA'.slot s _ hf
          simp only [condB, if_true] at q1 r1
          have hn : ¬ asg x s := fun q => by
            have := asg_mem x [] s (.inl q)
            rw [this] at hm
            cases hm
          have := hU.slot s hn
          rw [q1, r1] at this
          injection this with this
          exact this.symm
        · exact sames_to hA hA' hU h
      · exact sames_to hA hA' hU h
theorem exNest_inv {step : Fr → Hp → Nat → (EK → Fr → Hp → Nat → Prop) → Prop} {L : LA} {x : Code} {C : Ctx} {fr : Fr} {H : Hp} {nx : Nat} {K : EK → Fr → Hp → Nat → Prop} {Q : Exit → Act → World → Prop} {a : Act} {w : World}
    (ih : ∀ (C : Ctx) (fr : Fr) (H : Hp) (nx : Nat) (K : EK → Fr → Hp → Nat → Prop) (Q : Exit → Act → World → Prop) (a : Act) (w : World), step fr H nx K → Has N fr a → Sat C H w → (∀ e fr' H' nx' a' w', K e fr' H' nx' → Has N fr' a' → Sat C H' w' → Unt x a a' → Q (toExit e) a' w') → x.wp P Q a w)
    (h : exNest step L (assigned x []) K fr H nx) (hA : Has N fr a) (hS : Sat C H w) (hQ : ∀ e fr' H' nx' a' w', K e fr' H' nx' → Has N fr' a' → Sat C H' w' → Unt x a a' → Q (toExit e) a' w') :
    (∃ x0, LInv N L x C fr H a x0 a w) ∧ ∀ y a' w', LInv N L x C fr H a y a' w' → x.wp P (Exit.then (fun a'' w'' => ∃ z, LInv N L x C fr H a z a'' w'' ∧ L.meas z < L.meas y) Q) a' w' := by
  unfold exNest at h
  obtain ⟨⟨x0, hx0⟩, hr⟩ := h
  have hS0 := hS.split L.tags
  obtain ⟨s1, s2, s3, s4⟩ := meets_sound hA hS0.frame_in.left hx0
  have hS1 := hS0.unframe s3
  rw [unfr_all s4] at hS1
  refine ⟨⟨x0, s1, head_has hA.size s2 (keep_stands hA (Unt.refl x a)), hS1, Unt.refl _ _⟩, ?_⟩
  rintro y a' w' ⟨hi, hA', hS', hU⟩
  refine ih (Fm w' (L.ents y)) _ _ nx _ _ a' w' ((Hp.fo_iff _ _).1 ((Fr.fo_iff _ _).1 (sames_to hA hA' hU (hr y hi)))) hA' hS'.frame_in ?_
  intro e fr' H' nx' a'' w'' hk hA'' hS'' hU'
  have hU2 := hU.trans hU'
  cases e with
  | normal =>
    obtain ⟨y', hm⟩ := hk
    obtain ⟨⟨m0, m5⟩, m2, m3, m4⟩ := meets_sound hA'' hS'' hm
    have hS2 := hS'.unframe m3
    rw [unfr_all m4] at hS2
    exact ⟨y', ⟨m0, head_has hA''.size m2 (keep_stands hA hU2), hS2, hU2⟩, m5⟩
  | exit id => exact hQ (.exit id) _ _ _ _ _ hk hA'' (hS'.unframe hS'') hU2
  | ret => exact hQ .ret _ _ _ _ _ hk hA'' (hS'.unframe hS'') hU2
  | panic v => exact hQ (.panic v) _ _ _ _ _ hk hA'' (hS'.unframe hS'') hU2

/-- The order of a loop of two stages. -/
def twoLt {X Y : Type} (μ : X → Nat) (ν : Y → Nat) : X ⊕ Y → X ⊕ Y → Prop
  | .inl y, .inl x => μ y < μ x
  | .inr _, .inl _ => True
  | .inr y, .inr x => ν y < ν x
  | .inl _, .inr _ => False
theorem twoLt_wf {X Y : Type} (μ : X → Nat) (ν : Y → Nat) : WellFounded (twoLt μ ν) := by
  have hr : ∀ n y, ν y = n → Acc (twoLt μ ν) (.inr y) := by
    intro n
    induction n using Nat.strongRecOn with
    | _ n ih =>
      intro y hy
      refine Acc.intro _ fun z hz => ?_
      cases z with
      | inl z => exact hz.elim
      | inr z => exact ih (ν z) (hy ▸ hz) z rfl
  have hl : ∀ n x, μ x = n → Acc (twoLt μ ν) (.inl x) := by
    intro n
    induction n using Nat.strongRecOn with
    | _ n ih =>
      intro x hx
      refine Acc.intro _ fun z hz => ?_
      cases z with
      | inl z => exact ih (μ z) (hx ▸ hz) z rfl
      | inr z => exact hr _ z rfl
  exact ⟨fun o => match o with
    | .inl x => hl _ x rfl
    | .inr y => hr _ y rfl⟩
abbrev TInv (N : Nat) (M : LA) (t : List Nat) (x : Code) (C : Ctx) (fr : Fr) (H : Hp) (a : Act) : M.X → Act → World → Prop := fun y a' w' => M.inv y ∧ Has N (Fr.app (zipFr M.slots (M.vals y)) (keepFr (M.slots ++ assigned x []) fr)) a' ∧ Sat C (Hp.app (M.ents y) (Hp.minus t H)) w' ∧ Unt x a a'
theorem exTwo_inv {step : Fr → Hp → Nat → (EK → Fr → Hp → Nat → Prop) → Prop} {L M : LA} {x : Code} {C : Ctx} {fr : Fr} {H : Hp} {nx : Nat} {K : EK → Fr → Hp → Nat → Prop} {Q : Exit → Act → World → Prop} {a : Act} {w : World}
    (ih : ∀ (C : Ctx) (fr : Fr) (H : Hp) (nx : Nat) (K : EK → Fr → Hp → Nat → Prop) (Q : Exit → Act → World → Prop) (a : Act) (w : World), step fr H nx K → Has N fr a → Sat C H w → (∀ e fr' H' nx' a' w', K e fr' H' nx' → Has N fr' a' → Sat C H' w' → Unt x a a' → Q (toExit e) a' w') → x.wp P Q a w)
    (h : exTwo step L M (assigned x []) K fr H nx) (hA : Has N fr a) (hS : Sat C H w) (hQ : ∀ e fr' H' nx' a' w', K e fr' H' nx' → Has N fr' a' → Sat C H' w' → Unt x a a' → Q (toExit e) a' w') : (Code.loop x).wp P Q a w := by
  unfold exTwo at h
  obtain ⟨⟨x0, hx0⟩, hr1, hr2⟩ := h
  have hS0 := hS.split L.tags
  obtain ⟨s1, s2, s3, s4⟩ := meets_sound hA hS0.frame_in.left hx0
  have hS1 := hS0.unframe s3
  rw [unfr_all s4] at hS1
  refine wp_loop_w (twoLt_wf L.meas M.meas) (fun o a' w' => match o with
    | .inl y => TInv N L L.tags x C fr H a y a' w'
    | .inr y => TInv N M L.tags x C fr H a y a' w') (.inl x0) ⟨s1, head_has hA.size s2 (keep_stands hA (Unt.refl x a)), hS1, Unt.refl _ _⟩ ?_
  intro o a' w' hI
  cases o with
  | inl y =>
    obtain ⟨hi, hA', hS', hU⟩ := hI
    refine ih (Fm w' (L.ents y)) _ _ nx _ _ a' w' ((Hp.fo_iff _ _).1 ((Fr.fo_iff _ _).1 (hr1 y hi))) hA' hS'.frame_in ?_
    intro e fr' H' nx' a'' w'' hk hA'' hS'' hU'
    have hU2 := hU.trans hU'
    cases e with
    | normal =>
      rcases hk with ⟨y', hm⟩ | ⟨y', hm⟩
      · obtain ⟨⟨m0, m5⟩, m2, m3, m4⟩ := meets_sound hA'' hS'' hm
        have hS2 := hS'.unframe m3
        rw [unfr_all m4] at hS2
        exact ⟨.inl y', ⟨m0, head_has hA''.size m2 (keep_stands hA hU2), hS2, hU2⟩, m5⟩
      · obtain ⟨m0, m2, m3, m4⟩ := meets_sound hA'' hS'' hm
        have hS2 := hS'.unframe m3
        rw [unfr_all m4] at hS2
        exact ⟨.inr y', ⟨m0, head_has hA''.size m2 (keep_stands hA hU2), hS2, hU2⟩, trivial⟩
    | exit id => exact hQ (.exit id) _ _ _ _ _ hk hA'' (hS'.unframe hS'') hU2
    | ret => exact hQ .ret _ _ _ _ _ hk hA'' (hS'.unframe hS'') hU2
    | panic v => exact hQ (.panic v) _ _ _ _ _ hk hA'' (hS'.unframe hS'') hU2
  | inr y =>
    obtain ⟨hi, hA', hS', hU⟩ := hI
    refine ih (Fm w' (M.ents y)) _ _ nx _ _ a' w' ((Hp.fo_iff _ _).1 ((Fr.fo_iff _ _).1 (hr2 y hi))) hA' hS'.frame_in ?_
    intro e fr' H' nx' a'' w'' hk hA'' hS'' hU'
    have hU2 := hU.trans hU'
    cases e with
    | normal =>
      obtain ⟨y', hm⟩ := hk
      obtain ⟨⟨m0, m5⟩, m2, m3, m4⟩ := meets_sound hA'' hS'' hm
      have hS2 := hS'.unframe m3
      rw [unfr_all m4] at hS2
      exact ⟨.inr y', ⟨m0, head_has hA''.size m2 (keep_stands hA hU2), hS2, hU2⟩, m5⟩
    | exit id => exact hQ (.exit id) _ _ _ _ _ hk hA'' (hS'.unframe hS'') hU2
    | ret => exact hQ .ret _ _ _ _ _ hk hA'' (hS'.unframe hS'') hU2
    | panic v => exact hQ (.panic v) _ _ _ _ _ hk hA'' (hS'.unframe hS'') hU2

theorem exCode_sound (hE : EnvOk P E) (A : List An) : ∀ (c : Code) (C : Ctx) (fr : Fr) (H : Hp) (nx : Nat) (K : EK → Fr → Hp → Nat → Prop) (Q : Exit → Act → World → Prop) (a : Act) (w : World),
    exCode E N A c fr H nx K → Has N fr a → Sat C H w → (∀ e fr' H' nx' a' w', K e fr' H' nx' → Has N fr' a' → Sat C H' w' → Unt c a a' → Q (toExit e) a' w') → c.wp P Q a w := by
  intro c
  induction c with
  | skip => intro C fr H nx K Q a w h hA hS hQ; exact wp_skip (hQ .normal _ _ _ _ _ h hA hS (Unt.refl _ _))
  | label l => intro C fr H nx K Q a w h hA hS hQ; exact wp_label (hQ .normal _ _ _ _ _ h hA hS (Unt.refl _ _))
  | ret => intro C fr H nx K Q a w h hA hS hQ; exact wp_ret (hQ .ret _ _ _ _ _ h hA hS (Unt.refl _ _))
  | exit id => intro C fr H nx K Q a w h hA hS hQ; exact wp_exit (hQ (.exit id) _ _ _ _ _ h hA hS (Unt.refl _ _))
  | scope x ih =>
    intro C fr H nx K Q a w h hA hS hQ
    refine wp_scope_straight (ih C fr H nx K _ a w h hA hS ?_)
    intro e fr' H' nx' a' w' hk hA' hS' hU
    have := hQ e fr' H' nx' a' w' hk hA' hS' hU
    cases e <;> exact this
  | seq x y ihx ihy =>
    intro C fr H nx K Q a w h hA hS hQ
    simp only [exCode] at h
    split at h
    · refine wp_seq (ihx C fr H nx _ _ a w h hA hS ?_)
      intro e fr' H' nx' a' w' hk hA' hS' hU
      cases e with
      | normal =>
        refine ihy C fr' H' nx' K Q a' w' hk hA' hS' ?_
        intro e f2 H2 n2 a2 w2 hk2 hA2 hS2 hU2
        exact hQ e f2 H2 n2 a2 w2 hk2 hA2 hS2 ((hU.mono (c' := .seq x y) fun s q => Or.inl q).trans (hU2.mono (c' := .seq x y) fun s q => Or.inr q))
      | exit id => exact hQ (.exit id) _ _ _ _ _ hk hA' hS' (hU.mono fun s q => Or.inl q)
      | ret => exact hQ .ret _ _ _ _ _ hk hA' hS' (hU.mono fun s q => Or.inl q)
      | panic v => exact hQ (.panic v) _ _ _ _ _ hk hA' hS' (hU.mono fun s q => Or.inl q)
    · rename_i L nx0 hL
      obtain ⟨h1, h2⟩ := h
      have hS0 := hS.split L.tags
      refine wp_seq (ihx (Fm w (Hp.only L.tags H)) fr _ nx _ _ a w h1 hA hS0.frame_in ?_)
      intro e fr' H' nx' a' w' hk hA' hS' hU
      cases e with
      | normal =>
        obtain ⟨z, hz⟩ := hk
        obtain ⟨m1, m2, m3, m4⟩ := meets_sound hA' hS' hz
        have hS1 := hS0.unframe m3
        rw [unfr_all m4] at hS1
        have hA1 : Has N (Fr.app (zipFr L.slots (L.vals z)) (keepFr (L.slots ++ assigned x []) fr)) a' := head_has hA'.size m2 (keep_stands hA hU)
        have h3 : Fr.fo (Fr.app (zipFr L.slots (L.vals z)) (keepFr (L.slots ++ assigned x []) fr)) fun fr1 => Hp.fo (Hp.app (L.ents z) (Hp.minus L.tags H)) fun H1 => exCode E N A y fr1 H1 nx0 K := by
          have h3 := h2 z m1
          split at h3
          · exact sames_to hA hA1 hU h3
          · exact h3
        refine ihy C _ _ _ K Q a' w' ((Hp.fo_iff _ _).1 ((Fr.fo_iff _ _).1 h3)) hA1 hS1 ?_
        intro e f2 H2 n2 a2 w2 hk2 hA2 hS2 hU2
        exact hQ e f2 H2 n2 a2 w2 hk2 hA2 hS2 ((hU.mono (c' := .seq x y) fun s q => Or.inl q).trans (hU2.mono (c' := .seq x y) fun s q => Or.inr q))
      | exit id => exact hQ (.exit id) _ _ _ _ _ hk hA' (hS0.unframe hS') (hU.mono fun s q => Or.inl q)
      | ret => exact hQ .ret _ _ _ _ _ hk hA' (hS0.unframe hS') (hU.mono fun s q => Or.inl q)
      | panic v => exact hQ (.panic v) _ _ _ _ _ hk hA' (hS0.unframe hS') (hU.mono fun s q => Or.inl q)
  | cond c x y ihx ihy =>
    intro C fr H nx K Q a w h hA hS hQ
    simp only [exCode] at h
    split at h
    · rename_i t ht
      obtain ⟨e1, _⟩ := ev_sound hA (G := []) trivial trivial ht
      have hx := fun (q : exCode E N A x fr H nx K) => ihx C fr H nx K Q a w q hA hS fun e f2 H2 n2 a2 w2 hk2 hA2 hS2 hU2 => hQ e f2 H2 n2 a2 w2 hk2 hA2 hS2 (hU2.mono fun s q => Or.inl q)
      have hy := fun (q : exCode E N A y fr H nx K) => ihy C fr H nx K Q a w q hA hS fun e f2 H2 n2 a2 w2 hk2 hA2 hS2 hU2 => hQ e f2 H2 n2 a2 w2 hk2 hA2 hS2 (hU2.mono fun s q => Or.inr q)
      split at h
      · cases t with
        | true => exact wp_cond e1 (hx h)
        | false => exact wp_cond e1 (hy h)
      · exact wp_cond_split e1 (fun q => hx (h.1 q)) (fun q => hy (h.2 q))
    · exact h.elim
  | block id x ih =>
    intro C fr H nx K Q a w h hA hS hQ
    refine wp_block (ih C fr H nx _ _ a w h hA hS ?_)
    intro e fr' H' nx' a' w' hk hA' hS' hU
    have hU : Unt (.block id x) a a' := hU
    cases e with
    | normal => exact hQ .normal _ _ _ _ _ hk hA' hS' hU
    | exit id' =>
      dsimp only at hk
      simp only [toExit, Exit.inBlock]
      split at hk
      · rename_i hb
        have e1 : id' = id := by simpa using hb
        rw [if_pos e1]
        exact hQ .normal _ _ _ _ _ hk hA' hS' hU
      · rename_i hb
        have e1 : ¬ id' = id := by rintro rfl; simp at hb
        rw [if_neg e1]
        exact hQ (.exit id') _ _ _ _ _ hk hA' hS' hU
    | ret => exact hQ .ret _ _ _ _ _ hk hA' hS' hU
    | panic v => exact hQ (.panic v) _ _ _ _ _ hk hA' hS' hU
  | region id ops draw =>
    intro C fr H nx K Q a w h hA hS hQ
    simp only [exCode] at h
    replace h := apartQ_to hS h
    cases draw with
    | false =>
      refine wp_region_list ?_
      have := exOps_sound (Q := Q) hE _ _ ops.toList (fun a' => Unt (.region id ops false) a a') (fun v fr' H' nx' => K (.panic v) fr' H' nx') (fun v fr H nx a w hk hA hS hU => hQ (.panic v) fr H nx a w hk hA hS hU) (K .normal) (fun fr H nx a w hk hA hS hU => hQ .normal fr H nx a w hk hA hS hU) ops.toList fr H nx a w (unt_wr a) h hA hS (Unt.refl _ _)
      simpa using this
    | true =>
      dsimp only at h
      split at h
      · split at h
        · rename_i hB
          refine wp_region_quiet (C := Sat C H) hE.mixed hB (hS.drawn _) ?_
          have := exPure_sound (Q := Q) hE _ ops.toList (fun a' => Unt (.region id ops true) a a') (fun fr' => K .normal fr' H nx) hS (fun fr a w hk hA hS hU => hQ .normal fr H nx a w hk hA hS hU) ops.toList fr a (unt_wr a) h hA (Unt.refl _ _)
          simpa using this
        · exact h.elim
      · rename_i s t _
        split at h
        · rename_i hB
          simp only [schOk, Bool.and_eq_true] at hB
          obtain ⟨⟨b1, b2⟩, b3⟩ := hB
          have hops : ops = ops.toList.toArray := by simp
          refine Go.wp_mono (Q := fun e a w => e = .normal ∧ Q .normal a w) ?_ (fun e a w q => by rw [q.1]; exact q.2)
          refine wp_region_any hE.mixed ?_
          have key : ∀ w, Sat C H w → wpAny P .any ops (fun e a w => e = .normal ∧ Q .normal a w) ops.size (Array.replicate ops.size false) a w := fun w hS => by
            have hS0 := hS.split (tagsOf fr t)
            rw [hops]
            refine wpAny_of_anyX (C := Fm w (Hp.only (tagsOf fr t) H)) _ _ _ _ _ ?_ hS0.frame_in
            rw [hops] at b1 b2 b3
            exact (exSch_sound (C := Fm w (Hp.only (tagsOf fr t) H)) (Q := fun e a w => e = .normal ∧ Q .normal a w) hE _ ops.toList _ (fun w' hk => hS0.ro_stays hk) (fun a' => Unt (.region id ops true) a a') (unt_wr a) _ b1 (fun c a w q => by cases q.1)
              (fun fr H nx a w hk hA hS hU => ⟨rfl, hQ .normal fr _ nx a w hk hA (hS0.unframe hS) hU⟩) s fr _ nx _ a _ h hA (Unt.refl _ _) (Nat.le_of_ble_eq_true b2)).1 b3
          exact key _ (hS.drawn _)
        · exact h.elim
  | loop x ih =>
    intro C fr H nx K Q a w h hA hS hQ
    simp only [exCode] at h
    split at h
    · rename_i L hL
      obtain ⟨⟨x0, hx0⟩, hr⟩ := exLoop_inv (Q := Q) ih h hA hS hQ
      exact wp_loop_x _ L.meas x0 hx0 hr
    · rename_i key f hL
      obtain ⟨⟨x0, hx0⟩, hr⟩ := exLoop_inv (Q := Q) ih h hA hS hQ
      exact wp_loop_x _ (f fr H).meas x0 hx0 hr
    · rename_i L hL
      obtain ⟨⟨x0, hx0⟩, hr⟩ := exNest_inv (Q := Q) ih h hA hS hQ
      exact wp_loop_x _ L.meas x0 hx0 hr
    · rename_i key f g hL
      exact exTwo_inv (Q := Q) ih h hA hS hQ
    · rename_i L hL
      -- the states that the first round may end in
      refine wp_loop_o (X := Σ' (fr1 : Fr) (H1 : Hp) (nx1 : Nat) (a1 : Act), L.X)
        (fun y a' w' => exLoop (fun fr' H' nx' K' => exCode E N A x fr' H' nx' K') L (assigned x []) K y.1 y.2.1 y.2.2.1 ∧ LInv N L x C y.1 y.2.1 y.2.2.2.1 y.2.2.2.2 a' w' ∧ Has N y.1 y.2.2.2.1 ∧ (∃ w1, Sat C y.2.1 w1) ∧ Unt x a y.2.2.2.1) (fun y => L.meas y.2.2.2.2) ?_ ?_
      · refine ih C fr H nx _ _ a w h hA hS fun e fr' H' nx' a' w' hk hA' hS' hU => ?_
        cases e with
        | normal =>
          obtain ⟨⟨x0, hx0⟩, _⟩ := exLoop_inv (Q := Q) ih hk hA' hS' fun e f2 H2 n2 a2 w2 hk hA2 hS2 hU2 => hQ e f2 H2 n2 a2 w2 hk hA2 hS2 (hU.trans hU2)
          exact ⟨⟨fr', H', nx', a', x0⟩, hk, hx0, hA', ⟨w', hS'⟩, hU⟩
        | exit id => exact hQ (.exit id) _ _ _ _ _ hk hA' hS' hU
        | ret => exact hQ .ret _ _ _ _ _ hk hA' hS' hU
        | panic v => exact hQ (.panic v) _ _ _ _ _ hk hA' hS' hU
      · rintro ⟨fr1, H1, nx1, a1, y⟩ a' w' ⟨hk, hy, hA', ⟨w1, hS'⟩, hU⟩
        obtain ⟨_, hr⟩ := exLoop_inv (Q := Q) ih hk hA' hS' fun e f2 H2 n2 a2 w2 hk hA2 hS2 hU2 => hQ e f2 H2 n2 a2 w2 hk hA2 hS2 (hU.trans hU2)
        refine Code.wp_mono (fun e a w q => ?_) (hr y a' w' hy)
        cases e with
        | normal => obtain ⟨z, hz, hl⟩ := q; exact ⟨⟨fr1, H1, nx1, a1, z⟩, ⟨hk, hz, hA', ⟨w1, hS'⟩, hU⟩, hl⟩
        | _ => exact q
    · rename_i n _
      exact exIter_wp (fun fr H nx K Q a w => ih C fr H nx K Q a w) _ h hA hS hQ
    · exact h.elim
  | _ => intro C fr H nx K Q a w h hA hS hQ; simp [exCode] at h

theorem load_run (hE : EnvOk P E) (hA : Has N fr a) (hO : GOk a G) (hG : gHolds G) {t : TypeId} {x : Operand} {v : SV} {ps : List Ob} (h : pstep E fr H G (.load t x) = some (ps, v)) (hp : allTrue ps) (hS : Sat C H w) :
    v.wf ∧ ∃ ad, a.eval x = .pointer (some ad) ∧ (loadVar t ad).run P w = .ok v.den w := by
  have h' := h
  simp only [pstep] at h'
  split at h'
  · rename_i g b off i wd r hx
    obtain ⟨hx1, _⟩ := ev_sound hA hO hG hx
    obtain ⟨h1, h2⟩ := ps_load (o := ⟨none, .load t x, 0, "", #[], none⟩) hE hA hO hG rfl h hp hS
    refine ⟨h1, _, hx1, ?_⟩
    simp only [execOp, hx1, SV.den, Instr.loadAt, Instr.sureAddr, Sem.run_bind, Sem.run_pure, Result.andThen_ok] at h2
    cases hr : (loadVar t ⟨b, off + pathOff (PS.elt i wd :: r), none⟩).run P w with
    | ok u w' => rw [hr] at h2; simp at h2; rw [h2.1, h2.2]
    | halt x w' => rw [hr] at h2; simp at h2
  · cases h'

def outF (tm : Array Value) : ResultVar → Sem Value
  | .tmp t => pure (tm.getD t undef)
  | .cell x t => do loadVar t (← asAddr (tm.getD x undef))
theorem outs_sound (hE : EnvOk P E) (hA : Has N fr a) (hS : Sat C H w) : ∀ (rs : List ResultVar) (ps : List Ob) (l : List SV), outs E fr H rs = some (ps, l) → allTrue ps →
    (rs.mapM (outF a.tmps)).run P w = .ok (SV.denL l) w ∧ ∀ v ∈ l, v.wf
  | [], ps, l, h, _ => by
    simp only [outs, Option.some.injEq, Prod.mk.injEq] at h
    obtain ⟨_, rfl⟩ := h
    exact ⟨rfl, fun _ h => by cases h⟩
  | .tmp t :: r, ps, l, h, hp => by
    simp only [outs] at h
    split at h
    · rename_i v hv
      split at h
      · rename_i qs m hm
        simp only [Option.some.injEq, Prod.mk.injEq] at h
        obtain ⟨rfl, rfl⟩ := h
        obtain ⟨e1, e2⟩ := ev_sound hA (G := []) trivial trivial hv
        obtain ⟨f1, f2⟩ := outs_sound hE hA hS r _ _ hm hp
        have e1' : a.tmps.getD t undef = v.den := e1
        refine ⟨?_, fun u hu => ?_⟩
        · rw [List.mapM_cons]
          simp only [outF, Sem.run_bind, Sem.run_pure, Result.andThen_ok, e1', SV.denL]
          rw [f1]
          rfl
        · rcases List.mem_cons.1 hu with hu | hu
          · rw [hu]; exact e2
          · exact f2 u hu
      · cases h
    · cases h
  | .cell x t :: r, ps, l, h, hp => by
    simp only [outs] at h
    split at h
    · rename_i qs v hv
      split at h
      · rename_i rs' m hm
        simp only [Option.some.injEq, Prod.mk.injEq] at h
        obtain ⟨rfl, rfl⟩ := h
        obtain ⟨p1, p2⟩ := allTrue_append hp
        obtain ⟨e2, ad, e1, e3⟩ := load_run (P := P) (w := w) hE hA (G := []) trivial trivial hv p1 hS
        obtain ⟨f1, f2⟩ := outs_sound hE hA hS r _ _ hm p2
        have e1' : a.tmps.getD x undef = .pointer (some ad) := e1
        refine ⟨?_, fun u hu => ?_⟩
        · rw [List.mapM_cons]
          simp only [outF, Sem.run_bind, Sem.run_pure, Result.andThen_ok, e1', SV.denL, asAddr, e3]
          rw [f1]
          rfl
        · rcases List.mem_cons.1 hu with hu | hu
          · rw [hu]; exact e2
          · exact f2 u hu
      · cases h
    · cases h

/-- **A FUNCTION's CONTRACT OUT OF THE RUN.** -/
theorem calls_of_ex (hE : EnvOk P E) {f : FuncId} {fn : Func} {c : Code} (hf : P.funcs[f]? = some fn) (hb : fn.body = some c) (A : List An) (args : List SV) (hw : ∀ x ∈ args, x.wf) (hN : args.length ≤ fn.ntmps) (H : Hp) (nx : Nat) (K : SV → Hp → Nat → Prop)
    (h : exCode E fn.ntmps A c (argFr 0 args) H nx (atEnd E fn.results.toList K)) (hS : Sat C H w) :
    Calls P f (SV.denL args).toArray w fun e w' => ∃ r H' nx', K r H' nx' ∧ r.wf ∧ e = .returned r.den ∧ Sat C H' w' := by
  refine calls_of_wp hf hb (exCode_sound (N := fn.ntmps) hE A c C _ H nx _ _ _ w h ?_ hS ?_)
  · have hlen : (SV.denL args).length = args.length := by rw [denL_eq]; simp
    refine ⟨by simp [hlen]; omega, fun s e he => ?_⟩
    have key : ∀ (l : List SV) (k : Nat) (s : Nat) (e : FE), (argFr k l).find s = some e → e.gd = [] ∧ k ≤ s ∧ ∃ v, l[s - k]? = some v ∧ e.v = v := by
      intro l
      induction l with
      | nil => intro k s e h; simp [argFr, Fr.find] at h
      | cons v r ih =>
        intro k s e h
        simp only [argFr, Fr.find_cons] at h
        split at h
        · rename_i hs
          injection h with h
          subst h
          have e1 : k = s := by simpa using hs
          subst e1
          exact ⟨rfl, Nat.le_refl _, v, by simp, rfl⟩
        · obtain ⟨h1, h2, v', h3, h4⟩ := ih (k + 1) s e h
          refine ⟨h1, by omega, v', ?_, h4⟩
          rw [show s - k = (s - (k + 1)) + 1 from by omega]
          simpa using h3
    obtain ⟨h1, _, v, h3, h4⟩ := key args 0 s e he
    rw [h1, h4]
    simp only [Nat.sub_zero] at h3
    refine ⟨?_, fun _ => hw v (List.mem_of_getElem? h3), trivial⟩
    have hlt : s < args.length := (List.getElem?_eq_some_iff.1 h3).1
    rw [Array.getElem?_append_left (by simp [hlen]; exact hlt), List.getElem?_toArray]
    exact denL_mem h3
  · intro e fr' H' nx' a' w' hk hA' hS' hU'
    have fin : (∃ ps l, outs E fr' H' fn.results.toList = some (ps, l) ∧ allL ps (K (outSV l) H' nx')) → a'.defers = [] ∧ ∃ v, (results fn a'.tmps).run P w' = .ok v w' ∧ (fun e w' => ∃ r H' nx', K r H' nx' ∧ r.wf ∧ e = Ending.returned r.den ∧ Sat C H' w') (.returned v) w' := by
      rintro ⟨ps, l, ho, hk⟩
      rw [allL_iff] at hk
      obtain ⟨f1, f2⟩ := outs_sound (P := P) (w := w') hE hA' hS' _ _ _ ho hk.1
      have hres : (results fn a'.tmps).run P w' = .ok (outSV l).den w' := by
        have hm : results fn a'.tmps = (fn.results.mapM (outF a'.tmps) >>= fun vs => pure (if h : vs.size = 1 then vs[0] else .tuple vs)) := rfl
        rw [hm, Sem.run_bind, Array.mapM_eq_mapM_toList, Sem.run_map, f1]
        simp only [Result.andThen_ok]
        match l with
        | [] => simp [SV.denL, outSV, SV.den]
        | [v] => simp [SV.denL, outSV, SV.den]
        | v :: u :: r => simp [SV.denL, outSV, SV.den]
      refine ⟨hU'.defers, _, hres, outSV l, H', nx', hk.2, ?_, rfl, hS'⟩
      match l, f2 with
      | [], _ => trivial
      | [v], f2 => exact f2 v (by simp)
      | v :: u :: r, f2 => exact (wfL_iff _).2 f2
    have fin2 : (match outs E fr' H' fn.results.toList with | some (ps, l) => allL ps (K (outSV l) H' nx') | none => False) → (∃ ps l, outs E fr' H' fn.results.toList = some (ps, l) ∧ allL ps (K (outSV l) H' nx')) := by
      intro h
      split at h
      · rename_i ps l ho; exact ⟨ps, l, ho, h⟩
      · exact h.elim
    cases e with
    | normal => exact fin (fin2 hk)
    | ret => exact fin (fin2 hk)
    | panic v => exact hk.elim
    | exit id => exact hk.elim
end
end Eng
