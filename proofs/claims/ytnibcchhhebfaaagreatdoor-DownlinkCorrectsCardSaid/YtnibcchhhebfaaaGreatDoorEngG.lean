/-
  OWN WORK. THE ENGINE, part G: slice expressions, calls; every pure operation is sound.
-/
import Derived.Test.YtnibcchhhebfaaaGreatDoorEngF
namespace Eng
open Go
set_option linter.unusedVariables false
set_option linter.unusedSimpArgs false

section
variable {P : Program} {E : Env} {N : Nat} {fr : Fr} {a : Act} {G : Gd} {H : Hp} {C : Ctx} {w : World} {o : Oper}

theorem intArg_sound (hA : Has N fr a) (hO : GOk a G) (hG : gHolds G) {x : Option Operand} {r : Option Int} (h : intArg fr G x = some r) :
    (x = none ∧ r = none) ∨ ∃ op i k, x = some op ∧ r = some i ∧ a.eval op = .int k i := by
  cases x with
  | none => simp [intArg] at h; exact .inl ⟨rfl, h.symm⟩
  | some op =>
    simp only [intArg] at h
    split at h
    · rename_i k i hv
      injection h with h
      subst h
      exact .inr ⟨op, i, k, rfl, rfl, (ev_sound hA hO hG hv).1⟩
    · cases h

theorem bound_ok (k : IntKind) (i : Int) (y : Nat) (c : BoundsCode) (h0 : 0 ≤ i) (h1 : i ≤ y) : (Instr.sliceBound (.int k i) y c).run P w = .ok i.toNat w := by
  simp [Instr.sliceBound, asIntOf, h0, h1]
theorem bounds_run (hA : Has N fr a) (hO : GOk a G) (hG : gHolds G) {lo hi : Option Operand} {l h : Option Int} (hl : intArg fr G lo = some l) (hh : intArg fr G hi = some h) (b : Bool) (len cap : Nat) (h1 : 0 ≤ h.getD len) (h2 : h.getD len ≤ cap) (h3 : 0 ≤ l.getD 0) (h4 : l.getD 0 ≤ h.getD len) :
    (Instr.sliceBounds b len cap (lo.map a.eval) (hi.map a.eval) none).run P w = .ok ((l.getD 0).toNat, (h.getD len).toNat, cap) w := by
  rcases intArg_sound hA hO hG hl with ⟨rfl, rfl⟩ | ⟨ol, il, kl, rfl, rfl, el⟩ <;> rcases intArg_sound hA hO hG hh with ⟨rfl, rfl⟩ | ⟨oh, ih, kh, rfl, rfl, eh⟩
  · simp [Instr.sliceBounds]
  · simp only [Option.getD_some, Option.getD_none] at h1 h2 h4
    simp [Instr.sliceBounds, eh, bound_ok _ _ _ _ h1 h2]
  · simp only [Option.getD_some, Option.getD_none] at h3 h4 h1
    have : il ≤ (len : Int) := h4
    simp [Instr.sliceBounds, el, bound_ok _ _ _ _ h3 this]
  · simp only [Option.getD_some] at h1 h2 h3 h4
    have : il ≤ ((ih.toNat : Nat) : Int) := by omega
    simp [Instr.sliceBounds, el, eh, bound_ok _ _ _ _ h1 h2, bound_ok _ _ _ _ h3 this]

/-- A key of a map's block. -/
theorem MapIs.find {b : Nat} {h : Int → Bool} {g : Int → SV} (k : MapIs w b h g) (x : Int) : ∃ es clock, w.heap[b]? = some (.map es clock) ∧ MapKept.Stamped es clock ∧ (∀ e ∈ es.toList, MapKept.IsKey (.int .i64) e.key) ∧
    ((h x = false ∧ Instr.findNow (.int .i64) (.int .i64 x) es.toList 0 = some none ∧ ∀ e ∈ es.toList, e.key ≠ .int .i64 x) ∨
      (h x = true ∧ ∃ j e, Instr.findNow (.int .i64) (.int .i64 x) es.toList 0 = some (some (j, e.val)) ∧ es.toList[j]? = some e ∧ e.key = .int .i64 x ∧ e.val = (g x).den)) := by
  obtain ⟨es, clock, h1, h2, h3, h4⟩ := k
  have hk : ∀ e ∈ es.toList, MapKept.IsKey (.int .i64) e.key := fun e he => by
    obtain ⟨y, hy, _⟩ := h3 e he
    rw [hy]; rfl
  refine ⟨es, clock, h1, h2, hk, ?_⟩
  have hs := MapKept.findNow_spec (d := .int .i64) (k := .int .i64 x) rfl es.toList 0 hk
  rcases hs with ⟨s1, s2⟩ | ⟨j, e, s1, s2, s3⟩
  · refine .inl ⟨?_, s1, s2⟩
    cases hx : h x with
    | false => rfl
    | true =>
      obtain ⟨_, _, _, e, he, hk2⟩ := h4 x hx
      exact absurd hk2 (s2 e he)
  · obtain ⟨y, y1, y2, y3⟩ := h3 e (List.mem_of_getElem? s2)
    rw [s3] at y1
    injection y1 with _ y1
    subst y1
    exact .inr ⟨y2, j, e, by rw [s1, Nat.zero_add], s2, s3, y3⟩
theorem MapIs.wf {b : Nat} {h : Int → Bool} {g : Int → SV} (k : MapIs w b h g) {x : Int} (hx : h x = true) : (g x).wf ∧ (g x).nt = true := by
  obtain ⟨es, clock, h1, h2, h3, h4⟩ := k
  exact ⟨(h4 x hx).1, (h4 x hx).2.1⟩
theorem ps_lookup (hE : EnvOk P E) (hA : Has N fr a) (hO : GOk a G) (hG : gHolds G) {t : TypeId} {x ix : Operand} {v : SV} {ps : List Ob} (ho : o.op = .lookup t x ix false) (h : pstep E fr H G (.lookup t x ix false) = some (ps, v)) (hp : allTrue ps) (hS : Sat C H w) :
    v.wf ∧ (execOp a.eval o).run P w = .ok (.value v.den) w := by
  simp only [pstep] at h
  split at h
  · rename_i g b i hx
    obtain ⟨e1, e2⟩ := ev_sound hA hO hG hx
    split at h
    · rename_i k hi
      obtain ⟨i1, i2⟩ := ev_sound hA hO hG hi
      split at h
      · rename_i e he
        have hent := hS.ents e (find_mem H g e he).1
        split at h
        · rename_i s1 s2 kt et z hti
          split at h
          · rename_i s3 s4 z2 htk
            split at h
            · rename_i te hte
              split at h
              · rename_i hh gt hm
                simp only [Option.some.injEq, Prod.mk.injEq] at h
                obtain ⟨rfl, rfl⟩ := h
                unfold mapOb at hp
                split at hp
                · rename_i f hf
                  obtain ⟨p1, p2, _⟩ := hp
                  have p1 : (f i).1 = b := p1
                  have p2 : i < e.n := p2
                  obtain ⟨t0, d, ht⟩ := hE.ty t _ hti
                  obtain ⟨t1, d1, ht1⟩ := hE.ty kt _ htk
                  obtain ⟨t2, d2, ht2⟩ := hE.ty et _ hte
                  have hd : d = .map kt et := ht.kind
                  have hd1 : d1 = .int .i64 := ht1.kind
                  subst hd hd1
                  have hM := (hent.mob f hf i p2 hh gt hm).2.2
                  rw [p1] at hM
                  obtain ⟨es, clock, h1, h2, h3, h4⟩ := hM.find k
                  have hz : (zeroValue et).run P w = .ok te.zero.den w := by simp [zeroValue, typeInfo, ht2.info, ht2.zero]
                  have hck := MapKept.run_checkKey (P := P) (w := w) ht1.under (k := .int .i64 k) rfl es.isEmpty 9999
                  rcases h4 with ⟨q1, q2, _⟩ | ⟨q1, j, en, q2, _, _, q3⟩
                  · have hv : SV.ite (hh k = true) (gt k) te.zero = te.zero := by rw [ite_eq, if_neg (by rw [q1]; decide)]
                    rw [hv]
                    refine ⟨ht2.zwf, ?_⟩
                    simp [execOp, ho, e1, i1, SV.den, Instr.lookup, run_underlying ht.under, MapKept.run_getObj_map h1, hck, MapKept.run_findKey ht1.under q2, hz]
                  · have hv : SV.ite (hh k = true) (gt k) te.zero = gt k := by rw [ite_eq, if_pos q1]
                    rw [hv]
                    refine ⟨(hM.wf q1).1, ?_⟩
                    simp [execOp, ho, e1, i1, SV.den, Instr.lookup, run_underlying ht.under, MapKept.run_getObj_map h1, hck, MapKept.run_findKey ht1.under q2, q3]
                · exact absurd hp.1 (by decide)
              · cases h
            · cases h
          · cases h
        · cases h
      · cases h
    · cases h
  · cases h
/-- A slice expression with its room said. -/
theorem ps_slice3 (hE : EnvOk P E) (hA : Has N fr a) (hO : GOk a G) (hG : gHolds G) {t : TypeId} {x mx : Operand} {lo hi : Option Operand} {v : SV} {ps : List Ob} (ho : o.op = .slice t x lo hi (some mx)) (h : pstep E fr H G (.slice t x lo hi (some mx)) = some (ps, v)) (hp : allTrue ps) :
    v.wf ∧ (execOp a.eval o).run P w = .ok (.value v.den) w := by
  cases lo with
  | some lo =>
    cases hi with
    | none => simp [pstep] at h
    | some hi =>
      simp only [pstep] at h
      split at h
      · rename_i ka al hl
        split at h
        · rename_i kz z hz
          split at h
          · rename_i km m hm
            split at h
            · rename_i g b off p wd i n c z0 hx
              obtain ⟨e1, e2⟩ := ev_sound hA hO hG hx
              split at h
              · rename_i s1 s2 e zz hti
                split at h
                · rename_i te hte
                  obtain ⟨t0, d, ht⟩ := hE.ty t _ hti
                  obtain ⟨t1, d1, ht1⟩ := hE.ty e _ hte
                  have hd : d = .slice e := ht.kind
                  subst hd
                  simp only [Option.some.injEq, Prod.mk.injEq] at h
                  obtain ⟨rfl, rfl⟩ := h
                  obtain ⟨p0, p1, p2, p3, p5, _⟩ := hp
                  have p0 : 0 ≤ al := p0
                  have p1 : al ≤ z := p1
                  have p2 : z ≤ m := p2
                  have p3 : m ≤ c := p3
                  have p5 := beqN p5
                  have q0 := (ev_sound hA hO hG hl).1
                  have q1 := (ev_sound hA hO hG hz).1
                  have q2 := (ev_sound hA hO hG hm).1
                  simp only [SV.den] at q0 q1 q2
                  refine ⟨⟨fun hz => ?_, by omega, by have := e2.2.2; omega⟩, ?_⟩
                  · have := e2.1 hz
                    omega
                  have p2' : z ≤ ((m.toNat : Nat) : Int) := by omega
                  have p1' : al ≤ ((z.toNat : Nat) : Int) := by omega
                  have hb : (Instr.sliceBounds true n c (some (.int ka al)) (some (.int kz z)) (some (.int km m))).run P w = .ok (al.toNat, z.toNat, m.toNat) w := by
                    simp [Instr.sliceBounds, bound_ok _ _ _ _ (show 0 ≤ m by omega) p3, bound_ok _ _ _ _ (show 0 ≤ z by omega) p2', bound_ok _ _ _ _ p0 p1']
                  have hadd : (if m.toNat = al.toNat then ((if z0 = true then none else some ⟨b, off + (pathOff p + i * wd), none⟩) : Option Addr) else ((if z0 = true then none else some ⟨b, off + (pathOff p + i * wd), none⟩) : Option Addr).map (·.add (al.toNat * te.size))) = (if z0 = true then none else some ⟨b, off + (pathOff p + cutIx m.toNat al.toNat i * wd), none⟩) := by
                    unfold cutIx
                    cases z0
                    · split
                      · rfl
                      · simp only [sh_eq, Bool.false_eq_true, if_false, Option.map_some, add_none, ← p5, Nat.add_mul]
                        congr 2
                        omega
                    · simp
                  simp only [execOp, ho, e1, SV.den, Instr.sliceAt, Instr.slice, Sem.run_bind, run_underlying ht.under, Result.andThen_ok, Option.map_some, q0, q1, q2, hb, Go.sizeOf, typeInfo, run_program, ht1.info, Sem.run_pure, ht1.size, hadd]
                · cases h
              · cases h
            · cases h
          · cases h
        · cases h
      · cases h
  | none =>
    cases hi with
    | none => simp [pstep] at h
    | some hi =>
      simp only [pstep] at h
      split at h
      · rename_i kz z hz
        split at h
        · rename_i km m hm
          split at h
          · rename_i g b off p wd i n c z0 hx
            obtain ⟨e1, e2⟩ := ev_sound hA hO hG hx
            split at h
            · rename_i s1 s2 e zz hti
              split at h
              · rename_i te hte
                obtain ⟨t0, d, ht⟩ := hE.ty t _ hti
                obtain ⟨t1, d1, ht1⟩ := hE.ty e _ hte
                have hd : d = .slice e := ht.kind
                subst hd
                simp only [Option.some.injEq, Prod.mk.injEq] at h
                obtain ⟨rfl, rfl⟩ := h
                obtain ⟨p1, p2, p3, _⟩ := hp
                have p1 : 0 ≤ z := p1
                have p2 : z ≤ m := p2
                have p3 : m ≤ c := p3
                have q1 := (ev_sound hA hO hG hz).1
                have q2 := (ev_sound hA hO hG hm).1
                simp only [SV.den] at q1 q2
                refine ⟨⟨fun hz => ?_, by omega, by have := e2.2.2; omega⟩, ?_⟩
                · have := e2.1 hz
                  omega
                have p2' : z ≤ ((m.toNat : Nat) : Int) := by omega
                have hb : (Instr.sliceBounds true n c none (some (.int kz z)) (some (.int km m))).run P w = .ok (0, z.toNat, m.toNat) w := by
                  simp [Instr.sliceBounds, bound_ok _ _ _ _ (show 0 ≤ m by omega) p3, bound_ok _ _ _ _ p1 p2']
                have hadd : ∀ q : Option Addr, (if m.toNat = 0 then q else q.map (·.add (0 * te.size))) = q := fun q => by
                  cases q <;> simp [Addr.add]
                simp only [execOp, ho, e1, SV.den, Instr.sliceAt, Instr.slice, Sem.run_bind, run_underlying ht.under, Result.andThen_ok, Option.map_none, Option.map_some, q1, q2, hb, Go.sizeOf, typeInfo, run_program, ht1.info, Sem.run_pure, ht1.size, hadd, Nat.sub_zero]
              · cases h
            · cases h
          · cases h
        · cases h
      · cases h
theorem ps_slice (hE : EnvOk P E) (hA : Has N fr a) (hO : GOk a G) (hG : gHolds G) {t : TypeId} {x : Operand} {lo hi : Option Operand} {v : SV} {ps : List Ob} (ho : o.op = .slice t x lo hi none) (h : pstep E fr H G (.slice t x lo hi none) = some (ps, v)) (hp : allTrue ps) :
    v.wf ∧ (execOp a.eval o).run P w = .ok (.value v.den) w := by
  simp only [pstep] at h
  split at h
  · rename_i l hl
    split at h
    · rename_i h0 hh
      split at h
      · rename_i s hx
        obtain ⟨e1, e2⟩ := ev_sound hA hO hG hx
        split at h
        · rename_i s1 s2 z hti
          simp only [Option.some.injEq, Prod.mk.injEq] at h
          obtain ⟨rfl, rfl⟩ := h
          obtain ⟨p1, p2, p3, p4, _⟩ := hp
          have p1 : 0 ≤ h0.getD s.length := p1
          have p2 : h0.getD s.length ≤ s.length := p2
          have p3 : 0 ≤ l.getD 0 := p3
          have p4 : l.getD 0 ≤ h0.getD s.length := p4
          obtain ⟨t0, d, ht⟩ := hE.ty t _ hti
          have hd : d = .string := ht.kind
          subst hd
          refine ⟨by simp only [SV.wf, List.length_drop, List.length_take] at e2 ⊢; omega, ?_⟩
          have hb := bounds_run (P := P) (w := w) hA hO hG hl hh false s.length s.length p1 p2 p3 p4
          simp [execOp, ho, e1, SV.den, Instr.sliceAt, Instr.slice, run_underlying ht.under, ba_size, hb, ba_extract]
        · cases h
      · rename_i g b off p wd i n c z0 hx
        obtain ⟨e1, e2⟩ := ev_sound hA hO hG hx
        split at h
        · rename_i s1 s2 e z hti
          split at h
          · rename_i te hte
            obtain ⟨t0, d, ht⟩ := hE.ty t _ hti
            obtain ⟨t1, d1, ht1⟩ := hE.ty e _ hte
            have hd : d = .slice e := ht.kind
            subst hd
            split at h
            · simp only [Option.some.injEq, Prod.mk.injEq] at h
              obtain ⟨rfl, rfl⟩ := h
              obtain ⟨p1, p2, _⟩ := hp
              have p1 : 0 ≤ h0.getD n := p1
              have p2 : h0.getD n ≤ c := p2
              refine ⟨⟨fun hz => ?_, by omega, e2.2.2⟩, ?_⟩
              · have := e2.1 hz
                omega
              have hb := bounds_run (P := P) (w := w) hA hO hG hl hh true n c p1 p2 (by simp) (by simpa using p1)
              simp only [Option.getD_none, Int.toNat_zero] at hb
              have hadd : ∀ q : Option Addr, (if c = 0 then q else q.map (·.add (0 * te.size))) = q := fun q => by
                cases q <;> simp [Addr.add]
              simp only [execOp, ho, e1, SV.den, Instr.sliceAt, Instr.slice, Sem.run_bind, run_underlying ht.under, Result.andThen_ok, Option.map_none, hb, Go.sizeOf, typeInfo, run_program, ht1.info, Sem.run_pure, ht1.size, hadd, Nat.sub_zero]
            · rename_i al
              simp only [Option.some.injEq, Prod.mk.injEq] at h
              obtain ⟨rfl, rfl⟩ := h
              obtain ⟨p1, p2, p3, p4, p5, _⟩ := hp
              have p1 : 0 ≤ h0.getD n := p1
              have p2 : h0.getD n ≤ c := p2
              have p3 : 0 ≤ al := p3
              have p4 : al ≤ h0.getD n := p4
              have p5 := beqN p5
              refine ⟨⟨fun hz => ?_, by omega, by have := e2.2.2; omega⟩, ?_⟩
              · have := e2.1 hz
                omega
              have hb := bounds_run (P := P) (w := w) hA hO hG hl hh true n c p1 p2 p3 p4
              simp only [Option.getD_some] at hb
              have hadd : (if c = al.toNat then ((if z0 = true then none else some ⟨b, off + (pathOff p + i * wd), none⟩) : Option Addr) else ((if z0 = true then none else some ⟨b, off + (pathOff p + i * wd), none⟩) : Option Addr).map (·.add (al.toNat * te.size))) = (if z0 = true then none else some ⟨b, off + (pathOff p + cutIx c al.toNat i * wd), none⟩) := by
                unfold cutIx
                cases z0
                · split
                  · rfl
                  · simp only [sh_eq, Bool.false_eq_true, if_false, Option.map_some, add_none, ← p5, Nat.add_mul]
                    congr 2
                    omega
                · simp
              simp only [execOp, ho, e1, SV.den, Instr.sliceAt, Instr.slice, Sem.run_bind, run_underlying ht.under, Result.andThen_ok, Option.map_none, hb, Go.sizeOf, typeInfo, run_program, ht1.info, Sem.run_pure, ht1.size, hadd]
          · cases h
        · cases h
      · rename_i g b off p hx
        obtain ⟨e1, e2⟩ := ev_sound hA hO hG hx
        split at h
        · rename_i s1 s2 n e z hti
          split at h
          · rename_i te hte
            obtain ⟨t0, d, ht⟩ := hE.ty t _ hti
            obtain ⟨t1, d1, ht1⟩ := hE.ty e _ hte
            have hd : d = .array n e := ht.kind
            subst hd
            split at h
            · simp only [Option.some.injEq, Prod.mk.injEq] at h
              obtain ⟨rfl, rfl⟩ := h
              obtain ⟨p1, p2, pm, _⟩ := hp
              have p1 : 0 ≤ h0.getD n := p1
              have p2 : h0.getD n ≤ n := p2
              have pm : n ≤ 9223372036854775807 := Nat.le_of_ble_eq_true pm
              refine ⟨⟨(fun hz => by simp at hz), by omega, pm⟩, ?_⟩
              have hb := bounds_run (P := P) (w := w) hA hO hG hl hh false n n p1 p2 (by simp) (by simpa using p1)
              simp only [Option.getD_none, Int.toNat_zero] at hb
              simp [execOp, ho, e1, SV.den, Instr.sliceAt, Instr.sureAddr, run_underlying ht.under, hb, Go.sizeOf, typeInfo, ht1.info]
              intro _
              unfold Addr.add
              simp
            · rename_i al
              simp only [Option.some.injEq, Prod.mk.injEq] at h
              obtain ⟨rfl, rfl⟩ := h
              obtain ⟨p1, p2, p3, p4, pm, _⟩ := hp
              have p1 : 0 ≤ h0.getD n := p1
              have p2 : h0.getD n ≤ n := p2
              have p3 : 0 ≤ al := p3
              have p4 : al ≤ h0.getD n := p4
              have pm : n ≤ 9223372036854775807 := Nat.le_of_ble_eq_true pm
              refine ⟨⟨(fun hz => by simp at hz), by omega, by omega⟩, ?_⟩
              have hb := bounds_run (P := P) (w := w) hA hO hG hl hh false n n p1 p2 p3 p4
              simp only [Option.getD_some] at hb
              have hadd : (if n = al.toNat then (⟨b, off + pathOff p, none⟩ : Addr) else (⟨b, off + pathOff p, none⟩ : Addr).add (al.toNat * te.size)) = ⟨b, off + (pathOff p + cutIx n al.toNat 0 * te.size), none⟩ := by
                unfold cutIx
                split
                · simp
                · simp only [sh_eq, add_none, Nat.zero_add, Nat.add_assoc]
              simp only [execOp, ho, e1, SV.den, Instr.sliceAt, Instr.sureAddr, Sem.run_bind, run_underlying ht.under, Result.andThen_ok, Option.map_none, hb, Go.sizeOf, typeInfo, run_program, ht1.info, Sem.run_pure, ht1.size, hadd, Bool.false_eq_true, if_false]
          · cases h
        · cases h
      · cases h
    · cases h
  · cases h

theorem builtin_sound (hE : EnvOk P E) {b : Builtin} {args : List SV} {v : SV} {ps : List Ob} (tys : Array TypeId) (ty : TypeId) (cs : Array Bool) (h : builtinP b args = some (ps, v)) (ht : builtinT E b tys.toList args = true) :
    v.wf ∧ (builtin b tys ty cs (SV.denL args).toArray).run P w = .ok (.value v.den) w := by
  obtain ⟨tl⟩ := tys
  unfold builtinP at h
  split at h <;> first
    | (cases h; done)
    | (simp only [Option.some.injEq, Prod.mk.injEq] at h
       obtain ⟨_, rfl⟩ := h
       refine ⟨trivial, ?_⟩
       first
         | (simp [builtin, Builtin.min_, Builtin.min2, SV.denL, SV.den]; done)
         | (simp [builtin, Builtin.max_, Builtin.max2, SV.denL, SV.den]; done)
         | (cases tl with
            | nil => simp [builtinT] at ht
            | cons t r =>
              simp only [builtinT] at ht
              split at ht
              · rename_i hti
                obtain ⟨t0, d, hd⟩ := hE.ty t _ hti
                have hk := hd.kind
                simp only [KOk] at hk
                subst hk
                first
                  | (simp [builtin, Builtin.len_, SV.denL, SV.den, run_underlying hd.under, ba_size, goInt]; done)
                  | (simp [builtin, Builtin.cap_, SV.denL, SV.den, run_underlying hd.under, goInt]; done)
              · cases ht))

theorem ps_call (hE : EnvOk P E) (hA : Has N fr a) (hO : GOk a G) (hG : gHolds G) {c : Call} {v : SV} {ps : List Ob} (hX : ∃ C w, Sat C H w) (ho : o.op = .call c) (h : pstep E fr H G (.call c) = some (ps, v)) (hp : allTrue ps) :
    v.wf ∧ ∀ w, Sat C H w → o.quietAt P a (Sat C H) w v.den := by
  obtain ⟨callee, args, tys⟩ := c
  cases callee with
  | value f =>
    simp only [pstep] at h
    split at h
    · rename_i k l m hf
      split at h
      · rename_i av hav
        split at h
        · rename_i qs u hpc
          simp only [Option.some.injEq, Prod.mk.injEq] at h
          obtain ⟨rfl, rfl⟩ := h
          obtain ⟨e1, e2⟩ := ev_sound hA hO hG hf
          obtain ⟨f1, f2⟩ := evs_sound hA hO hG _ _ hav
          have hall : ∀ x ∈ l ++ (av ++ m), x.wf := fun x hx => by
            simp only [List.mem_append] at hx
            rcases hx with hx | hx | hx
            · exact (wfL_iff l).1 e2.1 x hx
            · exact f2 x hx
            · exact (wfL_iff m).1 e2.2 x hx
          obtain ⟨g1, g2, g3⟩ := hE.pc k _ H _ u hpc hall hp hX
          refine ⟨g1, fun w hS => ?_⟩
          have harr : args.map a.eval = (SV.denL av).toArray := by rw [← f1]; apply Array.ext'; simp
          have hargs : (SV.denL l).toArray ++ args.map a.eval ++ (SV.denL m).toArray = (SV.denL (l ++ (av ++ m))).toArray := by
            rw [harr]
            apply Array.ext'
            simp [denL_eq]
          unfold Oper.quietAt
          have hrun : (execOp a.eval o).run P w = .ok (.enter k (SV.denL (l ++ (av ++ m))).toArray) w := by
            simp only [execOp, ho, Sem.run_bind, resolve, e1, SV.den, Deferred.ofValue, Sem.run_pure, Result.andThen_ok, invoke]
            rw [hargs]
            exact g2 _ w
          rw [hrun]
          exact ⟨rfl, g3 C w hS⟩
        · cases h
      · cases h
    · cases h
  | builtin b =>
    simp only [pstep] at h
    split at h
    · rename_i av hav
      split at h
      · rename_i htt
        obtain ⟨f1, f2⟩ := evs_sound hA hO hG _ _ hav
        have harr : args.map a.eval = (SV.denL av).toArray := by rw [← f1]; apply Array.ext'; simp
        refine ⟨(builtin_sound (P := P) (w := default) hE tys o.type (args.map fun | .const _ => true | _ => false) h htt).1, fun w hS => quiet_of_run ?_⟩
        obtain ⟨q1, q2⟩ := builtin_sound (P := P) (w := w) hE tys o.type (args.map fun | .const _ => true | _ => false) h htt
        simp only [execOp, ho, Sem.run_bind, resolve, Sem.run_pure, Result.andThen_ok, invoke]
        rw [harr]
        exact q2
      · cases h
    · cases h
  | invoke r m => simp [pstep] at h

/-- Every pure operation: one value, in every world that satisfies the heap. -/
theorem pstep_sound (hE : EnvOk P E) (hA : Has N fr a) (hO : GOk a G) (hG : gHolds G) {v : SV} {ps : List Ob} (h : pstep E fr H G o.op = some (ps, v)) (hp : allTrue ps) (hS : Sat C H w) :
    v.wf ∧ ∀ w, Sat C H w → o.quietAt P a (Sat C H) w v.den := by
  have fin : (∀ w, Sat C H w → v.wf ∧ (execOp a.eval o).run P w = .ok (.value v.den) w) → v.wf ∧ ∀ w, Sat C H w → o.quietAt P a (Sat C H) w v.den :=
    fun k => ⟨(k w hS).1, fun w' hw' => quiet_of_run (k w' hw').2⟩
  cases hop : o.op with
  | move x => rw [hop] at h; simp only [pstep] at h; split at h <;> cases h; rename_i hx; exact fin fun w hw => ps_move hA hO hG (.inl hop) hx
  | assign x => rw [hop] at h; simp only [pstep] at h; split at h <;> cases h; rename_i hx; exact fin fun w hw => ps_move hA hO hG (.inr hop) hx
  | pick c x y => rw [hop] at h; exact fin fun w hw => ps_pick hA hO hG hop h
  | nilCheck x => rw [hop] at h; exact fin fun w hw => ps_nilCheck hA hO hG hop h
  | fieldAddr t x f => rw [hop] at h; exact fin fun w hw => ps_fieldAddr hE hA hO hG hop h hp
  | field t x f => rw [hop] at h; exact fin fun w hw => ps_field hE hA hO hG hop h hp
  | indexAddr t x f => rw [hop] at h; exact fin fun w hw => ps_indexAddr hE hA hO hG hop h hp
  | index t x f => rw [hop] at h; exact fin fun w hw => ps_index hE hA hO hG hop h hp
  | load t x => rw [hop] at h; exact fin fun w hw => ps_load hE hA hO hG hop h hp hw
  | binOp b t x y u => rw [hop] at h; exact fin fun w hw => ps_binOp hE hA hO hG hop h hp
  | unOp b t x => rw [hop] at h; exact fin fun w hw => ps_unOp hA hO hG hop h
  | convert s d x => rw [hop] at h; exact fin fun w hw => ps_convert hE hA hO hG hop h hp hw
  | typeAssert x xt t c => rw [hop] at h; exact fin fun w hw => ps_typeAssert hE hA hO hG hop h
  | extract x k => rw [hop] at h; exact fin fun w hw => ps_extract hA hO hG hop h
  | makeFunc f l m => rw [hop] at h; exact fin fun w hw => ps_makeFunc hA hO hG hop h
  | makeInterface t x => rw [hop] at h; exact fin fun w hw => ps_makeInterface hE hA hO hG hop h hp
  | lookup t x ix ok =>
    rw [hop] at h
    cases ok with
    | false => exact fin fun w hw => ps_lookup hE hA hO hG hop h hp hw
    | true => simp [pstep] at h
  | slice t x lo hi mx =>
    rw [hop] at h
    cases mx with
    | none => exact fin fun w hw => ps_slice hE hA hO hG hop h hp
    | some y => exact fin fun w hw => ps_slice3 hE hA hO hG hop h hp
  | build t parts => rw [hop] at h; exact fin fun w hw => ps_build hE hA hO hG hop h hp
  | call c => rw [hop] at h; exact ps_call hE hA hO hG ⟨_, _, hS⟩ hop h hp
  | _ => rw [hop] at h; simp [pstep] at h
end
end Eng
