/-
  OWN WORK. THE ENGINE, part Q: contracts of functions that may panic; a deferred closure that recovers.
-/
import Derived.Test.YtnibcchhhebfaaaGreatDoorEngP
import Derived.Recover
namespace Eng
open Go
set_option linter.unusedVariables false
set_option linter.unusedSimpArgs false

section
variable {P : Program} {E : Env} {H : Hp} {C : Ctx} {w w' : World}
theorem Sat.none (h : Sat C H w) : Sat C [] w := ⟨h.kept, (fun _ q => by cases q), List.Pairwise.nil⟩
/-! ### a deferred closure that recovers -/
theorem argHas {N : Nat} {args : List SV} {ds : List Deferred} (hw : ∀ x ∈ args, x.wf) (hN : args.length ≤ N) : Has N (argFr 0 args) { tmps := (SV.denL args).toArray ++ Array.replicate (N - (SV.denL args).toArray.size) undef, defers := ds } := by
  have hlen : (SV.denL args).length = args.length := by rw [denL_eq]; simp
  refine ⟨by simp [hlen]; omega, fun s e he => ?_⟩
  have key : ∀ (l : List SV) (k : Nat) (s : Nat) (e : FE), (argFr k l).find s = some e → e.gd = [] ∧ k ≤ s ∧ ∃ v, l[s - k]? = some v ∧ e.v = v := by
    intro l
    induction l with
    | nil => intro k s e h; simp [argFr, Fr.find] at h
    | cons v r ih =>
      intro k s e h
      simp only [argFr, Fr.find_cons] at h
      split at h
      · rename_i hs
        injection h with h
        subst h
        have e1 : k = s := by simpa using hs
        subst e1
        exact ⟨rfl, Nat.le_refl _, v, by simp, rfl⟩
      · obtain ⟨h1, h2, v', h3, h4⟩ := ih (k + 1) s e h
        refine ⟨h1, by omega, v', ?_, h4⟩
        rw [show s - k = (s - (k + 1)) + 1 from by omega]
        simpa using h3
  obtain ⟨h1, _, v, h3, h4⟩ := key args 0 s e he
  rw [h1, h4]
  simp only [Nat.sub_zero] at h3
  refine ⟨?_, fun _ => hw v (List.mem_of_getElem? h3), trivial⟩
  have hlt : s < args.length := (List.getElem?_eq_some_iff.1 h3).1
  rw [Array.getElem?_append_left (by simp [hlen]; exact hlt), List.getElem?_toArray]
  exact denL_mem h3
/-- What is returned, as results say it. -/
def atOuts (E : Env) (rs : List ResultVar) (fr : Fr) (H : Hp) (nx : Nat) (K : SV → Hp → Nat → Prop) : Prop := match outs E fr H rs with
  | some (ps, l) => allL ps (K (outSV l) H nx)
  | none => False
theorem atOuts_ok {N : Nat} {fr : Fr} {a : Act} {fn : Func} (hE : EnvOk P E) (hA : Has N fr a) (hS : Sat C H w) {nx : Nat} {K : SV → Hp → Nat → Prop} (h : atOuts E fn.results.toList fr H nx K) :
    ∃ v, (results fn a.tmps).run P w = .ok v w ∧ ∃ r, K r H nx ∧ r.wf ∧ v = r.den := by
  unfold atOuts at h
  split at h
  · rename_i ps l ho
    rw [allL_iff] at h
    obtain ⟨f1, f2⟩ := outs_sound (P := P) (w := w) hE hA hS _ _ _ ho h.1
    have hres : (results fn a.tmps).run P w = .ok (outSV l).den w := by
      have hm : results fn a.tmps = (fn.results.mapM (outF a.tmps) >>= fun vs => pure (if h : vs.size = 1 then vs[0] else .tuple vs)) := rfl
      rw [hm, Sem.run_bind, Array.mapM_eq_mapM_toList, Sem.run_map, f1]
      simp only [Result.andThen_ok]
      match l with
      | [] => simp [SV.denL, outSV, SV.den]
      | [v] => simp [SV.denL, outSV, SV.den]
      | v :: u :: r => simp [SV.denL, outSV, SV.den]
    refine ⟨_, hres, outSV l, h.2, ?_, rfl⟩
    match l, f2 with
    | [], _ => trivial
    | [v], f2 => exact f2 v (by simp)
    | v :: u :: r, f2 => exact (wfL_iff _).2 f2
  · exact h.elim
/-- The closure: its first region recovers alone. -/
def recOp (ops : Array Oper) : Option Nat := match ops.toList with
  | [⟨some t, .call ⟨.builtin .recover, _, _⟩, _, _, _, none⟩] => some t
  | _ => none
/-- .. or it lays what it recovered into a variable. -/
def recOp2 (ops : Array Oper) : Option (Nat × Nat) := match ops.toList with
  | [⟨some t, .call ⟨.builtin .recover, _, _⟩, _, _, _, none⟩, ⟨some t', .assign (.tmp s), _, _, _, none⟩] => match Nat.beq s t with
    | true => some (t, t')
    | false => none
  | _ => none
def exClos (E : Env) (fn : Func) (A : List An) (m : List SV) (rv : SV) (H : Hp) (nx : Nat) (K : Hp → Nat → Prop) : Prop := match fn.body with
  | some (.seq (.region _ ops false) rest) => match recOp ops, fn.results.toList with
    | some t, [] => match Nat.blt t fn.ntmps, Nat.ble m.length fn.ntmps, gdFresh t (argFr 0 m) with
      | true, true, true => exCode E fn.ntmps A rest (⟨t, [], rv⟩ :: argFr 0 m) H nx fun e _ H' nx' => match e with
        | .normal => K H' nx'
        | .ret => K H' nx'
        | _ => False
      | _, _, _ => False
    | none, [] => match recOp2 ops with
      | some (t, t') => match okDst fn.ntmps [] (argFr 0 m) (some t), Nat.ble m.length fn.ntmps, okDst fn.ntmps [] (⟨t, [], rv⟩ :: argFr 0 m) (some t') with
        | true, true, true => exCode E fn.ntmps A rest (⟨t', [], rv⟩ :: ⟨t, [], rv⟩ :: argFr 0 m) H nx fun e _ H' nx' => match e with
          | .normal => K H' nx'
          | .ret => K H' nx'
          | _ => False
        | _, _, _ => False
      | none => False
    | _, _ => False
  | _ => False
theorem exClos_ok (hE : EnvOk P E) {f : FuncId} {fn : Func} {A : List An} {m : List SV} {rv : SV} {nx : Nat} {K : Hp → Nat → Prop} (hf : P.funcs[f]? = some fn) (hS : Sat C H w) (hm : ∀ v ∈ m, v.wf) (hrv : rv.wf) (h : exClos E fn A m rv H nx K)
    {u : FrameMode} (hu : (u = .returning ∧ rv = .val .nilIface) ∨ u = .panicking [{ v := rv.den, recovered := false }]) :
    CallsD P f (SV.denL m).toArray u w fun e u' w' => ∃ H' nx', K H' nx' ∧ Sat C H' w' ∧ e = .returned (.tuple #[]) ∧ settle u' = .returning := by
  unfold exClos at h
  split at h
  · rename_i id ops rest hb
    split at h
    · rename_i t hrec hres
      split at h
      · rename_i ht hml hgf
        refine callsD_of_wpS hf hb fun c₀ cs hc => ?_
        apply wpS_seq
        apply wpS_region
        have hops : ∃ x1 x2 x3 x4 x5, ops = #[⟨some t, .call ⟨.builtin .recover, x1, x2⟩, x3, x4, x5, none⟩] := by
          unfold recOp at hrec
          split at hrec
          · rename_i hl
            injection hrec with hrec
            subst hrec
            exact ⟨_, _, _, _, _, Array.ext' hl⟩
          · cases hrec
        obtain ⟨x1, x2, x3, x4, x5, rfl⟩ := hops
        have h0 := argHas (N := fn.ntmps) (ds := []) hm (Nat.le_of_ble_eq_true hml)
        have hput := h0.put (G := []) (dst := some t) (v := rv) trivial (by
          simp only [okDst, ht, gdHas, hgf]) (fun _ => hrv)
        rw [if_pos (by rfl)] at hput
        have hrun : ∀ w, (execOp { tmps := (SV.denL m).toArray ++ Array.replicate (fn.ntmps - (SV.denL m).toArray.size) undef, defers := [] : Act }.eval ⟨some t, .call ⟨.builtin .recover, x1, x2⟩, x3, x4, x5, none⟩).run P w = .ok .recover w := fun w => by
          simp [execOp, resolve, invoke, builtin]
        have fin : ∀ (u' : FrameMode), settle u' = .returning → rest.wpS P (bodyPostS P fn c₀ cs fun e u' w' => ∃ H' nx', K H' nx' ∧ Sat C H' w' ∧ e = .returned (.tuple #[]) ∧ settle u' = .returning)
            ({ tmps := (SV.denL m).toArray ++ Array.replicate (fn.ntmps - (SV.denL m).toArray.size) undef, defers := [] : Act }.put (some t) rv.den) ({ c₀ with mode := u' } :: cs) w := fun u' hu' => by
          refine wpS_of_wp (exCode_sound (N := fn.ntmps) hE A rest C _ H nx _ _ _ w h hput hS ?_)
          intro e fr' H' nx' a' w' hk hA' hS' hU'
          have hd : a'.defers = [] := hU'.defers
          have hr : (results fn a'.tmps).run P w' = .ok (.tuple #[]) w' := by
            have hfr : fn.results = #[] := Array.ext' hres
            simp [results, hfr]
          cases e with
          | normal => exact ⟨hd, u', rfl, _, hr, H', nx', hk, hS', rfl, hu'⟩
          | ret => exact ⟨hd, u', rfl, _, hr, H', nx', hk, hS', rfl, hu'⟩
          | exit id => exact hk.elim
          | panic v => exact hk.elim
        have hlist : List.range (#[(⟨some t, .call ⟨.builtin .recover, x1, x2⟩, x3, x4, x5, none⟩ : Oper)]).size = [0] := rfl
        rw [hlist]
        simp only [wpOpsS]
        have h0' : (#[(⟨some t, .call ⟨.builtin .recover, x1, x2⟩, x3, x4, x5, none⟩ : Oper)])[0]? = some ⟨some t, .call ⟨.builtin .recover, x1, x2⟩, x3, x4, x5, none⟩ := rfl
        rw [h0']
        simp only [Region.wanted, hrun, if_true]
        rcases hu with ⟨rfl, rfl⟩ | rfl
        · have hn : recoverD (c₀ :: cs) = none := by simp [recoverD, hc]
          rw [hn]
          have := fin .returning rfl
          have hcc : ({ c₀ with mode := .returning } : Frame) = c₀ := by cases c₀; simp_all
          rw [hcc] at this
          exact this
        · have hn : recoverD (c₀ :: cs) = some (rv.den, { c₀ with mode := .panicking [{ v := rv.den, recovered := true }] } :: cs) := by simp [recoverD, hc]
          rw [hn]
          exact fin _ rfl
      · exact h.elim
    · rename_i hrec hres
      split at h
      · rename_i t t' hrec2
        split at h
        · rename_i ht hml ht'
          refine callsD_of_wpS hf hb fun c₀ cs hc => ?_
          apply wpS_seq
          apply wpS_region
          have hops : ∃ x1 x2 x3 x4 x5 y1 y2 y3, ops = #[⟨some t, .call ⟨.builtin .recover, x1, x2⟩, x3, x4, x5, none⟩, ⟨some t', .assign (.tmp t), y1, y2, y3, none⟩] := by
            unfold recOp2 at hrec2
            split at hrec2
            · rename_i hl
              split at hrec2
              · rename_i hst
                have hst := beqN hst
                subst hst
                simp only [Option.some.injEq, Prod.mk.injEq] at hrec2
                obtain ⟨rfl, rfl⟩ := hrec2
                exact ⟨_, _, _, _, _, _, _, _, Array.ext' hl⟩
              · cases hrec2
            · cases hrec2
          obtain ⟨x1, x2, x3, x4, x5, y1, y2, y3, rfl⟩ := hops
          have h0 := argHas (N := fn.ntmps) (ds := []) hm (Nat.le_of_ble_eq_true hml)
          have hput := h0.put (G := []) (dst := some t) (v := rv) trivial ht (fun _ => hrv)
          rw [if_pos (by rfl)] at hput
          have hrun : ∀ w, (execOp { tmps := (SV.denL m).toArray ++ Array.replicate (fn.ntmps - (SV.denL m).toArray.size) undef, defers := [] : Act }.eval ⟨some t, .call ⟨.builtin .recover, x1, x2⟩, x3, x4, x5, none⟩).run P w = .ok .recover w := fun w => by
            simp [execOp, resolve, invoke, builtin]
          obtain ⟨a1, ha1⟩ : ∃ a1, ({ tmps := (SV.denL m).toArray ++ Array.replicate (fn.ntmps - (SV.denL m).toArray.size) undef, defers := [] : Act }.put (some t) rv.den) = a1 := ⟨_, rfl⟩
          have had : a1.defers = [] := by rw [← ha1]; rfl
          rw [ha1] at hput
          have hput2 := hput.put (G := []) (dst := some t') (v := rv) trivial ht' (fun _ => hrv)
          rw [if_pos (by rfl)] at hput2
          have hev : a1.eval (.tmp t) = rv.den := by
            obtain ⟨q1, _, _⟩ := hput.slot t ⟨t, [], rv⟩ (by simp [put, Fr.find])
            exact tmp_eval q1
          have hrun2 : ∀ w, (execOp a1.eval ⟨some t', .assign (.tmp t), y1, y2, y3, none⟩).run P w = .ok (.value rv.den) w := fun w => by
            simp [execOp, hev]
          have fin : ∀ (u' : FrameMode), settle u' = .returning → rest.wpS P (bodyPostS P fn c₀ cs fun e u' w' => ∃ H' nx', K H' nx' ∧ Sat C H' w' ∧ e = .returned (.tuple #[]) ∧ settle u' = .returning)
              (a1.put (some t') rv.den) ({ c₀ with mode := u' } :: cs) w := fun u' hu' => by
            refine wpS_of_wp (exCode_sound (N := fn.ntmps) hE A rest C _ H nx _ _ _ w h hput2 hS ?_)
            intro e fr' H' nx' a' w' hk hA' hS' hU'
            have hd : a'.defers = [] := by rw [hU'.defers]; exact had
            have hr : (results fn a'.tmps).run P w' = .ok (.tuple #[]) w' := by
              have hfr : fn.results = #[] := Array.ext' hres
              simp [results, hfr]
            cases e with
            | normal => exact ⟨hd, u', rfl, _, hr, H', nx', hk, hS', rfl, hu'⟩
            | ret => exact ⟨hd, u', rfl, _, hr, H', nx', hk, hS', rfl, hu'⟩
            | exit id => exact hk.elim
            | panic v => exact hk.elim
          have hlist : List.range (#[(⟨some t, .call ⟨.builtin .recover, x1, x2⟩, x3, x4, x5, none⟩ : Oper), ⟨some t', .assign (.tmp t), y1, y2, y3, none⟩]).size = [0, 1] := rfl
          rw [hlist]
          simp only [wpOpsS]
          have h0' : (#[(⟨some t, .call ⟨.builtin .recover, x1, x2⟩, x3, x4, x5, none⟩ : Oper), ⟨some t', .assign (.tmp t), y1, y2, y3, none⟩])[0]? = some ⟨some t, .call ⟨.builtin .recover, x1, x2⟩, x3, x4, x5, none⟩ := rfl
          have h1' : (#[(⟨some t, .call ⟨.builtin .recover, x1, x2⟩, x3, x4, x5, none⟩ : Oper), ⟨some t', .assign (.tmp t), y1, y2, y3, none⟩])[1]? = some ⟨some t', .assign (.tmp t), y1, y2, y3, none⟩ := rfl
          rw [h0', h1']
          simp only [Region.wanted, hrun, if_true]
          rcases hu with ⟨rfl, rfl⟩ | rfl
          · have hn : recoverD (c₀ :: cs) = none := by simp [recoverD, hc]
            rw [hn]
            have := fin .returning rfl
            have hcc : ({ c₀ with mode := .returning } : Frame) = c₀ := by cases c₀; simp_all
            rw [hcc] at this
            dsimp only
            rw [show Value.nilIface = (SV.val .nilIface).den from rfl, ha1, hrun2]
            exact this
          · have hn : recoverD (c₀ :: cs) = some (rv.den, { c₀ with mode := .panicking [{ v := rv.den, recovered := true }] } :: cs) := by simp [recoverD, hc]
            rw [hn]
            dsimp only
            rw [ha1, hrun2]
            exact fin _ rfl
        · exact h.elim
      · exact h.elim
    · exact h.elim
  · exact h.elim
/-- A region that makes a closure and defers its call: its slot, the function, what is captured. -/
def defReg : Code → Option (Nat × FuncId × List Operand)
  | .region _ ops false => match ops.toList with
    | [⟨some s, .makeFunc (.func f) ⟨[]⟩ m, _, _, _, none⟩, ⟨none, .defer ⟨.value (.tmp s'), ⟨[]⟩, _⟩, _, _, _, none⟩] => match Nat.beq s s' with
      | true => some (s, f, m.toList)
      | false => none
    | _ => none
  | _ => none
/-- A function that defers one closure; fnc: the closure's text. -/
def exDefer (E : Env) (f0 : FuncId) (fnC : Func) (N : Nat) (rs : List ResultVar) (A Ac : List An) (Kp K : SV → Hp → Nat → Prop) : Code → Fr → Hp → Nat → Prop
  | .seq a b, fr, H, nx => match defReg a with
    | some (s, f, caps) => match evs fr [] caps, Nat.beq f f0, okDst N [] fr (some s) with
      | some m, true, true => exCode E N A b (⟨s, [], .fn (.func f) [] m⟩ :: fr) H nx fun e fr' H' nx' => match e with
        | .exit _ => False
        | .panic v => match v with
          | .iface t u => u.wf ∧ exClos E fnC Ac m (.iface t u) H' nx' fun H2 nx2 => atOuts E rs fr' H2 nx2 K
          | _ => False
        | _ => exClos E fnC Ac m (.val .nilIface) H' nx' fun H2 nx2 => atOuts E rs fr' H2 nx2 K
      | _, _, _ => False
    | none => exCode E N A a fr H nx fun e fr' H' nx' => match e with
      | .normal => exDefer E f0 fnC N rs A Ac Kp K b fr' H' nx'
      | .exit _ => False
      | .panic v => Kp v H' nx'
      | .ret => atOuts E rs fr' H' nx' K
  | _, _, _, _ => False
theorem GOk_tmps {a b : Act} (h : b.tmps = a.tmps) : ∀ {G : Gd}, GOk a G → GOk b G
  | [], _ => trivial
  | (s, bb, g) :: r, hG => ⟨fun q => by rw [h]; exact hG.1 q, GOk_tmps h hG.2⟩
theorem Has.tmps {N : Nat} {fr : Fr} {a b : Act} (hA : Has N fr a) (h : b.tmps = a.tmps) : Has N fr b := ⟨by rw [h]; exact hA.size, fun s e he => by
  obtain ⟨q1, q2, q3⟩ := hA.slot s e he
  exact ⟨by rw [h]; exact q1, q2, GOk_tmps h q3⟩⟩
theorem exDefer_wp (hE : EnvOk P E) {f0 : FuncId} {fnC fn : Func} {N : Nat} {A Ac : List An} {Kp K : SV → Hp → Nat → Prop} (hfC : P.funcs[f0]? = some fnC) (hbC : fnC.body.isNone = false) (hn : (fnC.name == "runtime.NumGoroutine") = false) :
    ∀ (c : Code) (fr : Fr) (H : Hp) (nx : Nat) (a : Act) (w : World), a.defers = [] → Has N fr a → Sat C H w → exDefer E f0 fnC N fn.results.toList A Ac Kp K c fr H nx →
    c.wp P (bodyPostD P fn fun e w' => (∃ r H' nx', K r H' nx' ∧ r.wf ∧ e = .returned r.den ∧ Sat C H' w') ∨ (∃ v H' nx', Kp v H' nx' ∧ e = .panicked [{ v := v.den, recovered := false }] ∧ Sat C H' w')) a w := by
  intro c
  induction c with
  | seq x y _ ihy =>
    intro fr H nx a w hd hA hS h
    simp only [exDefer] at h
    split at h
    · rename_i s f caps hreg
      split at h
      · rename_i m hm hf0 hok
        have hf0 := beqN hf0
        subst hf0
        unfold defReg at hreg
        split at hreg
        case h_2 => cases hreg
        rename_i id ops
        split at hreg
        case h_2 => cases hreg
        rename_i s1 f1 m1 x1 x2 x3 s2 y1 y2 y3 y4 hl
        split at hreg
        case h_2 => cases hreg
        rename_i hss
        have hss := beqN hss
        subst hss
        simp only [Option.some.injEq, Prod.mk.injEq] at hreg
        obtain ⟨rfl, rfl, rfl⟩ := hreg
        obtain ⟨f2, f3⟩ := evs_sound hA (G := []) trivial trivial _ _ hm
        refine wp_seq (wp_region_list ?_)
        rw [hl]
        have hw1 : (SV.fn (.func f1) [] m).wf := ⟨trivial, (wfL_iff m).2 f3⟩
        have hput := hA.put (G := []) (v := SV.fn (.func f1) [] m) trivial hok (fun _ => hw1)
        rw [if_pos (by rfl)] at hput
        have hmk : (execOp a.eval ⟨some s1, .makeFunc (.func f1) ⟨[]⟩ m1, x1, x2, x3, none⟩).run P w = .ok (.value (SV.fn (.func f1) [] m).den) w := by
          have harr : m1.map a.eval = (SV.denL m).toArray := by rw [← f2]; apply Array.ext'; simp
          simp [execOp, Instr.makeFunc, SV.den, SV.denL, harr]
        have hs1 : ((a.put (some s1) (SV.fn (.func f1) [] m).den).eval (.tmp s1)) = .func (.func f1) #[] (SV.denL m).toArray := by
          obtain ⟨q1, _, _⟩ := hput.slot s1 ⟨s1, [], SV.fn (.func f1) [] m⟩ (by simp [put, Fr.find])
          exact tmp_eval q1
        obtain ⟨a1, ha1⟩ : ∃ a1, a.put (some s1) (SV.fn (.func f1) [] m).den = a1 := ⟨_, rfl⟩
        have had : a1.defers = [] := by rw [← ha1]; exact hd
        rw [ha1] at hput hs1
        have hdf : (execOp a1.eval ⟨none, .defer ⟨.value (.tmp s1), ⟨[]⟩, y1⟩, y2, y3, y4, none⟩).run P w = .ok (.defer { target := .fn (.func f1) (SV.denL m).toArray, args := #[] }) w := by
          simp only [execOp, resolve, Sem.run_bind, hs1, Deferred.ofValue, Sem.run_pure, Result.andThen_ok]
          simp
        unfold wpList
        rw [if_pos (by simp [Region.wanted])]
        left
        unfold Oper.wp
        rw [hmk, Oper.upon_value]
        dsimp only
        rw [ha1]
        unfold wpList
        rw [if_pos (by simp [Region.wanted])]
        left
        unfold Oper.wp
        rw [hdf, Oper.upon_defer]
        have hA1 : Has N (⟨s1, [], .fn (.func f1) [] m⟩ :: fr) { a1 with defers := { target := .fn (.func f1) (SV.denL m).toArray, args := #[] } :: a1.defers } := hput.tmps rfl
        have hgo := goFn_of hfC hbC hn
        unfold wpList
        refine exCode_sound (N := N) hE A y C _ H nx _ _ _ w h hA1 hS ?_
        intro e fr' H' nx' a' w' hk hA' hS' hU'
        have hds : a'.defers = [{ target := .fn (.func f1) (SV.denL m).toArray, args := #[] }] := by rw [hU'.defers]; show _ :: a1.defers = _; rw [had]
        have hinv : ∀ w : World, (invoke (.fn (.func f1) (SV.denL m).toArray) #[]).run P w = .ok (.enter f1 (SV.denL m).toArray) w := fun w => by
          simp only [invoke]
          have := hgo (SV.denL m).toArray w
          simpa using this
        have fin : ∀ (u : FrameMode) (rv : SV), u ≠ .run → rv.wf → ((u = .returning ∧ rv = .val .nilIface) ∨ u = .panicking [{ v := rv.den, recovered := false }]) → exClos E fnC Ac m rv H' nx' (fun H2 nx2 => atOuts E fn.results.toList fr' H2 nx2 K) →
            Leaves P fn a'.tmps (fun e w' => (∃ r H' nx', K r H' nx' ∧ r.wf ∧ e = .returned r.den ∧ Sat C H' w') ∨ (∃ v H' nx', Kp v H' nx' ∧ e = .panicked [{ v := v.den, recovered := false }] ∧ Sat C H' w')) [{ target := .fn (.func f1) (SV.denL m).toArray, args := #[] }] u w' := fun u rv hu hrv hcase hc => by
          refine ⟨hu, _, _, f1, _, rfl, hinv w', ?_⟩
          refine (exClos_ok hE hfC hS' f3 hrv hc hcase).mono ?_
          rintro e u' w'' ⟨H2, nx2, k1, k2, rfl, k3⟩
          dsimp only
          rw [k3]
          obtain ⟨v, r1, r, r2, r3, rfl⟩ := atOuts_ok hE hA' k2 k1
          exact ⟨_, r1, .inl ⟨r, H2, nx2, r2, r3, rfl, k2⟩⟩
        cases e with
        | exit id => exact hk.elim
        | normal =>
          show Leaves P fn a'.tmps _ a'.defers .returning w'
          rw [hds]
          exact fin .returning (.val .nilIface) (by intro q; cases q) trivial (.inl ⟨rfl, rfl⟩) hk
        | ret =>
          show Leaves P fn a'.tmps _ a'.defers .returning w'
          rw [hds]
          exact fin .returning (.val .nilIface) (by intro q; cases q) trivial (.inl ⟨rfl, rfl⟩) hk
        | panic v =>
          show Leaves P fn a'.tmps _ a'.defers (.panicking [{ v := v.den, recovered := false }]) w'
          rw [hds]
          dsimp only at hk
          split at hk
          · rename_i t u
            exact fin (.panicking [{ v := (SV.iface t u).den, recovered := false }]) (.iface t u) (by intro q; cases q) hk.1 (.inr rfl) hk.2
          · exact hk.elim
      · exact h.elim
    · refine wp_seq (exCode_sound (N := N) hE A x C fr H nx _ _ a w h hA hS ?_)
      intro e fr' H' nx' a' w' hk hA' hS' hU'
      have hds : a'.defers = [] := by rw [hU'.defers]; exact hd
      cases e with
      | normal => exact ihy fr' H' nx' a' w' hds hA' hS' hk
      | exit id => exact hk.elim
      | ret =>
        show Leaves P fn a'.tmps _ a'.defers .returning w'
        rw [hds]
        obtain ⟨v, r1, r, r2, r3, rfl⟩ := atOuts_ok hE hA' hS' hk
        exact ⟨_, r1, .inl ⟨r, H', nx', r2, r3, rfl, hS'⟩⟩
      | panic v =>
        show Leaves P fn a'.tmps _ a'.defers (.panicking [{ v := v.den, recovered := false }]) w'
        rw [hds]
        exact .inr ⟨v, H', nx', hk, rfl, hS'⟩
  | _ => intro fr H nx a w _ _ _ h; exact h.elim
/-- **A FUNCTION THAT DEFERS A CLOSURE.** -/
theorem calls_of_defer (hE : EnvOk P E) {f f0 : FuncId} {fn fnC : Func} {c : Code} (hf : P.funcs[f]? = some fn) (hb : fn.body = some c) (hfC : P.funcs[f0]? = some fnC) (hbC : fnC.body.isNone = false) (hn : (fnC.name == "runtime.NumGoroutine") = false) (A Ac : List An) (args : List SV) (hw : ∀ x ∈ args, x.wf) (hN : args.length ≤ fn.ntmps) (H : Hp) (nx : Nat) (Kp K : SV → Hp → Nat → Prop)
    (h : exDefer E f0 fnC fn.ntmps fn.results.toList A Ac Kp K c (argFr 0 args) H nx) (hS : Sat C H w) :
    Calls P f (SV.denL args).toArray w fun e w' => (∃ r H' nx', K r H' nx' ∧ r.wf ∧ e = .returned r.den ∧ Sat C H' w') ∨ (∃ v H' nx', Kp v H' nx' ∧ e = .panicked [{ v := v.den, recovered := false }] ∧ Sat C H' w') :=
  calls_of_wp_defers hf hb (exDefer_wp hE hfC hbC hn c _ H nx _ w rfl (argHas hw hN) hS h)
/-- .. as a contract. -/
theorem ecC_runD {α Y : Type} {L : ArgL α} {pre : α → List Prop} {post : α → Y → Prop} {res : α → Y → SV} {ents : α → Y → Hp} {k : Nat} {f f0 : FuncId} {fn fnC : Func} {c : Code} {E : α → Env}
    (hE : ∀ x, EnvOk P (E x)) (hf : P.funcs[f]? = some fn) (hb : fn.body = some c) (hn : (fn.name == "runtime.NumGoroutine") = false) (hfC : P.funcs[f0]? = some fnC) (hbC : fnC.body.isNone = false) (hnC : (fnC.name == "runtime.NumGoroutine") = false) (ren : List (Nat × Nat))
    (A Ac : α → List An) (hN : ∀ x, (L.svs 0 x).length ≤ fn.ntmps)
    (h : ∀ x, allT (pre x) → (∀ v ∈ L.svs 0 x, v.wf) → exDefer (E x) f0 fnC fn.ntmps fn.results.toList (A x) (Ac x) (fun _ _ _ => False) (fun r H' _ => ∃ y, ends r H' (res x y) (ents x y) ren (post x y)) c (argFr 0 (L.svs 0 x)) (L.hp 0 x) L.tags) : EcOk P f (ecC L pre post res ents k) := by
  intro args H nx K hc hw
  refine ⟨goFn_of hf (by rw [hb]; rfl) hn, fun C w hS => ?_⟩
  unfold ecC at hc
  split at hc
  · rename_i qs x hx
    split at hc
    · rename_i hB
      rw [allL_iff] at hc
      obtain ⟨p1, hc⟩ := hc
      replace hc := hc x rfl
      rw [allL_iff] at hc
      obtain ⟨p2, hc⟩ := hc
      obtain ⟨d, _, _, g, e⟩ := L.ok args H qs x hx p1 hw ⟨C, w, hS⟩ 0
      have hS0 := src_view hS hB e ((L.tg 0 x).1.imp fun h _ _ => h)
      rw [← d]
      refine (calls_of_defer (hE x) hf hb hfC hbC hnC (A x) (Ac x) _ g (hN x) _ L.tags _ _ (h x ((pOb_true _).1 p2) g) hS0).mono ?_
      rintro e w' (⟨r, H', nx', ⟨y, k1, k3⟩, k5, rfl, k6⟩ | ⟨v, H', nx', k1, _⟩)
      · split at k3
        · rename_i hnd
          split at k3
          case h_2 => exact k3.elim
          rename_i hfo
          obtain ⟨g1, g2, g3⟩ := hpAgrees_sat k6 k3 hnd hfo
          have hq := eqv_sound _ _ k1
          have hr := rt_eq (tau (L.om 0 args H ++ L.rm 0 args H) L.tags nx) (res x y)
          have hS1 := (hS.split (sndL (L.om 0 args H))).unframe (rt_sat (tau (L.om 0 args H ++ L.rm 0 args H) L.tags nx) g1)
          rw [unfr_all (fun e he => by
            rw [hprt_eq] at he
            obtain ⟨u, hu, rfl⟩ := List.mem_map.1 he
            have := g2 u hu
            cases u; exact this)] at hS1
          exact ⟨_, _, nx + k, hc y g3, hr.2.2.2.2 (hq.wf k5), by rw [hr.1, ← hq.den], hS1⟩
        · exact k3.elim
      · exact k1.elim
    · exact hc.elim
  · exact hc.elim
end
end Eng
