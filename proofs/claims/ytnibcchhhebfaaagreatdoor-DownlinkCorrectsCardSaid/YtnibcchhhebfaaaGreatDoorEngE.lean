/-
  OWN WORK. THE ENGINE, part E: the other pure operations are sound.
-/
import Derived.Test.YtnibcchhhebfaaaGreatDoorEngD
import Derived.Laws.BytesString
import Derived.Laws.Cells
namespace Eng
open Go
set_option linter.unusedVariables false
set_option linter.unusedSimpArgs false

section
variable {P : Program} {E : Env} {N : Nat} {fr : Fr} {a : Act} {G : Gd} {H : Hp} {C : Ctx} {w : World} {o : Oper}

theorem ps_pick (hA : Has N fr a) (hO : GOk a G) (hG : gHolds G) {c x y : Operand} {v : SV} {ps : List Ob} (ho : o.op = .pick c x y) (h : pstep E fr H G (.pick c x y) = some (ps, v)) :
    v.wf ∧ (execOp a.eval o).run P w = .ok (.value v.den) w := by
  cases c with
  | tmp c =>
    simp only [pstep] at h
    split at h
    · rename_i s0 gc b hc
      split at h
      · rename_i hs
        split at h
        · rename_i u hu
          split at h
          · rename_i z hz
            simp only [Option.some.injEq, Prod.mk.injEq] at h
            obtain ⟨_, rfl⟩ := h
            obtain ⟨h1, h2, h3⟩ := hA.slot c _ hc
            dsimp only at h1 h2 h3
            have hgc := gdSub_holds gc G hs hO hG h3
            rw [if_pos ((condB_iff _).1 hgc)] at h1
            have hO' : ∀ bb, GOk a ((c, bb, b) :: G) := fun bb => ⟨fun _ => by simpa [SV.den] using h1, hO⟩
            rw [ite_eq]
            cases b with
            | true =>
              obtain ⟨e1, e2⟩ := ev_sound hA (hO' true) ((gHolds_iff _ _ _ _).2 ⟨rfl, hG⟩) hu
              refine ⟨by simpa using e2, ?_⟩
              simp [execOp, ho, tmp_eval h1, SV.den, asBool, e1]
            | false =>
              obtain ⟨e1, e2⟩ := ev_sound hA (hO' false) ((gHolds_iff _ _ _ _).2 ⟨rfl, hG⟩) hz
              refine ⟨by simpa using e2, ?_⟩
              simp [execOp, ho, tmp_eval h1, SV.den, asBool, e1]
          · cases h
        · cases h
      · cases h
    · cases h
  | _ => simp [pstep] at h

theorem ps_nilCheck (hA : Has N fr a) (hO : GOk a G) (hG : gHolds G) {x : Operand} {v : SV} {ps : List Ob} (ho : o.op = .nilCheck x) (h : pstep E fr H G (.nilCheck x) = some (ps, v)) :
    v.wf ∧ (execOp a.eval o).run P w = .ok (.value v.den) w := by
  simp only [pstep] at h
  split at h
  · rename_i g b off p hx
    simp only [Option.some.injEq, Prod.mk.injEq] at h
    obtain ⟨_, rfl⟩ := h
    obtain ⟨e1, e2⟩ := ev_sound hA hO hG hx
    refine ⟨e2, ?_⟩
    simp [execOp, ho, e1, SV.den]
  · rename_i f l m hx
    simp only [Option.some.injEq, Prod.mk.injEq] at h
    obtain ⟨_, rfl⟩ := h
    obtain ⟨e1, e2⟩ := ev_sound hA hO hG hx
    refine ⟨e2, ?_⟩
    simp [execOp, ho, e1, SV.den]
  · cases h

theorem sh_eq (i k : Nat) : sh i k = i + k := by cases i <;> simp [sh]
theorem ps_indexAddr (hE : EnvOk P E) (hA : Has N fr a) (hO : GOk a G) (hG : gHolds G) {t : TypeId} {x ix : Operand} {v : SV} {ps : List Ob} (ho : o.op = .indexAddr t x ix) (h : pstep E fr H G (.indexAddr t x ix) = some (ps, v)) (hp : allTrue ps) :
    v.wf ∧ (execOp a.eval o).run P w = .ok (.value v.den) w := by
  simp only [pstep] at h
  split at h
  · rename_i k i hi
    obtain ⟨i1, i2⟩ := ev_sound hA hO hG hi
    split at h
    · rename_i g b off p wd j n c z0 hx
      split at h
      · rename_i s1 s2 e z hti
        split at h
        · rename_i te hte
          simp only [Option.some.injEq, Prod.mk.injEq] at h
          obtain ⟨rfl, rfl⟩ := h
          obtain ⟨p1, p2, p3, _⟩ := hp
          have p1 : 0 ≤ i := p1
          have p2 : i < (n : Int) := p2
          have p3 := beqN p3
          obtain ⟨e1, e2⟩ := ev_sound hA hO hG hx
          obtain ⟨t0, d, ht⟩ := hE.ty t _ hti
          obtain ⟨t1, d1, ht1⟩ := hE.ty e _ hte
          have hd : d = .slice e := ht.kind
          subst hd
          refine ⟨trivial, ?_⟩
          have hz0 : z0 = false := by
            cases z0 with
            | false => rfl
            | true => have := (e2.1 rfl).1; omega
          subst hz0
          have hadd : ((⟨b, off + (pathOff p + j * wd), none⟩ : Addr).add (i.toNat * te.size)) = ⟨b, off + (pathOff (p ++ [.elt (sh j i.toNat) wd])), none⟩ := by
            rw [add_none, pathOff_append, sh_eq]
            simp only [pathOff, PS.off, ← p3, Nat.add_mul, Nat.add_zero]
            congr 1
            omega
          simp [execOp, ho, i1, e1, SV.den, Instr.indexAt, asIntOf, run_underlying ht.under, Go.sizeOf, typeInfo, ht1.info, ht1.size, p1, p2, hadd]
        · cases h
      · cases h
    · rename_i g b off p wd n c z0 sp hx
      split at h
      · rename_i s1 s2 e z hti
        split at h
        · rename_i te hte
          simp only [Option.some.injEq, Prod.mk.injEq] at h
          obtain ⟨rfl, rfl⟩ := h
          obtain ⟨p1, p2, p4, p3, _⟩ := hp
          have p1 : 0 ≤ i := p1
          have p2 : i < (n : Int) := p2
          have p4 : sp = none := p4
          have p3 := beqN p3
          subst p4
          obtain ⟨e1, e2⟩ := ev_sound hA hO hG hx
          obtain ⟨t0, d, ht⟩ := hE.ty t _ hti
          obtain ⟨t1, d1, ht1⟩ := hE.ty e _ hte
          have hd : d = .slice e := ht.kind
          subst hd
          refine ⟨trivial, ?_⟩
          have hz0 : z0 = false := by
            cases z0 with
            | false => rfl
            | true => have := (e2.1 rfl).1; omega
          subst hz0
          have hadd : ((⟨b, off + pathOff p, none⟩ : Addr).add (i.toNat * te.size)) = ⟨b, off + (pathOff (p ++ [.elt i.toNat wd])), none⟩ := by
            rw [add_none, pathOff_append]
            simp only [pathOff, PS.off, ← p3, Nat.add_zero]
            congr 1
            omega
          simp [execOp, ho, i1, e1, SV.den, Instr.indexAt, asIntOf, run_underlying ht.under, Go.sizeOf, typeInfo, ht1.info, ht1.size, p1, p2, hadd]
        · cases h
      · cases h
    · rename_i g b off p hx
      split at h
      · rename_i s1 s2 n e z hti
        split at h
        · rename_i te hte
          simp only [Option.some.injEq, Prod.mk.injEq] at h
          obtain ⟨rfl, rfl⟩ := h
          obtain ⟨p1, p2, _⟩ := hp
          have p1 : 0 ≤ i := p1
          have p2 : i < (n : Int) := p2
          obtain ⟨e1, e2⟩ := ev_sound hA hO hG hx
          obtain ⟨t0, d, ht⟩ := hE.ty t _ hti
          obtain ⟨t1, d1, ht1⟩ := hE.ty e _ hte
          have hd : d = .array n e := ht.kind
          subst hd
          refine ⟨trivial, ?_⟩
          have hadd : ((⟨b, off + pathOff p, none⟩ : Addr).add (i.toNat * te.size)) = ⟨b, off + (pathOff (p ++ [.elt i.toNat te.size])), none⟩ := by
            rw [add_none, pathOff_append]
            simp only [pathOff, PS.off, Nat.add_zero, Nat.add_assoc]
          simp [execOp, ho, i1, e1, SV.den, Instr.indexAt, Instr.sureAddr, asIntOf, run_underlying ht.under, Go.sizeOf, typeInfo, ht1.info, ht1.size, p1, p2, hadd]
        · cases h
      · cases h
    · cases h
  · cases h

theorem ps_index (hE : EnvOk P E) (hA : Has N fr a) (hO : GOk a G) (hG : gHolds G) {t : TypeId} {x ix : Operand} {v : SV} {ps : List Ob} (ho : o.op = .index t x ix) (h : pstep E fr H G (.index t x ix) = some (ps, v)) (hp : allTrue ps) :
    v.wf ∧ (execOp a.eval o).run P w = .ok (.value v.den) w := by
  simp only [pstep] at h
  split at h
  · rename_i k i hi
    obtain ⟨i1, i2⟩ := ev_sound hA hO hG hi
    split at h
    · rename_i l hx
      split at h
      · rename_i s1 s2 z hti
        simp only [Option.some.injEq, Prod.mk.injEq] at h
        obtain ⟨rfl, rfl⟩ := h
        obtain ⟨p1, p2, _⟩ := hp
        have p1 : 0 ≤ i := p1
        have p2 : i < (l.length : Int) := p2
        obtain ⟨e1, e2⟩ := ev_sound hA hO hG hx
        obtain ⟨t0, d, ht⟩ := hE.ty t _ hti
        have hd : d = .string := ht.kind
        subst hd
        refine ⟨trivial, ?_⟩
        have hlt : i.toNat < l.length := by omega
        have hgi : (⟨l.toArray⟩ : ByteArray)[i.toNat]? = some (l.getD i.toNat 0) := by
          have hsz : i.toNat < (⟨l.toArray⟩ : ByteArray).size := by simpa [ByteArray.size] using hlt
          rw [getElem?_pos (⟨l.toArray⟩ : ByteArray) i.toNat hsz]
          simp [ByteArray.getElem_eq_getElem_data, List.getD_eq_getElem?_getD, List.getElem?_eq_getElem hlt]
        simp [execOp, ho, i1, e1, SV.den, Instr.index, asIntOf, run_underlying ht.under, p1, hgi]
      · cases h
    · rename_i n wd get hx
      split at h
      · rename_i s1 s2 m e z hti
        split at h
        · rename_i te hte
          simp only [Option.some.injEq, Prod.mk.injEq] at h
          obtain ⟨rfl, rfl⟩ := h
          obtain ⟨p1, p2, p3, p4, p5, _⟩ := hp
          have p1 : 0 ≤ i := p1
          have p2 : i < (m : Int) := p2
          have p3 := beqN p3
          have p4 := beqN p4
          have p5 := beqB_true p5
          obtain ⟨e1, e2⟩ := ev_sound hA hO hG hx
          obtain ⟨t0, d, ht⟩ := hE.ty t _ hti
          obtain ⟨t1, d1, ht1⟩ := hE.ty e _ hte
          have hd : d = .array m e := ht.kind
          subst hd
          subst p3
          have hlt : i.toNat < n := by omega
          obtain ⟨w1, w2, _⟩ := e2 i.toNat hlt
          refine ⟨w1, ?_⟩
          have hle : (i.toNat + 1) * wd ≤ n * wd := Nat.mul_le_mul_right _ hlt
          rw [Nat.succ_mul] at hle
          have hll := len_flatMap_range (fun i => (get i).flat) wd n (fun i hi => by rw [len_flat _ (e2 i hi).1, (e2 i hi).2.1])
          have := part_run (P := P) (w := w) ht1 (cs := (List.range n).flatMap fun i => (get i).flat) (k := i.toNat * wd) w1 (by rw [w2, p4]) p5 (by rw [hll, w2]; omega)
            (fun j hj => get_flatMap_range (fun i => (get i).flat) wd n (fun i hi => by rw [len_flat _ (e2 i hi).1, (e2 i hi).2.1]) i.toNat j hlt (by omega))
          rw [p4] at this
          simp [execOp, ho, i1, e1, SV.den, Instr.index, asIntOf, run_underlying ht.under, p1, p2, Go.sizeOf, typeInfo, ht1.info, ht1.size, this]
        · cases h
      · cases h
    · cases h
  · cases h

theorem ba_size (l : List UInt8) : (⟨l.toArray⟩ : ByteArray).size = l.length := by simp [ByteArray.size]
theorem ba_append (l m : List UInt8) : (⟨l.toArray⟩ : ByteArray) ++ ⟨m.toArray⟩ = ⟨(l ++ m).toArray⟩ := by
  apply ByteArray.ext
  rw [ByteArray.data_append]
  simp
theorem ba_toList (l : List UInt8) : (⟨l.toArray⟩ : ByteArray).toList = l := by
  rw [ByteArray.toList_eq]
theorem ba_extract (l : List UInt8) (a z : Nat) : (⟨l.toArray⟩ : ByteArray).extract a z = ⟨((l.take z).drop a).toArray⟩ := by
  apply ByteArray.ext
  rw [ByteArray.data_extract]
  simp [List.extract_eq_take_drop, List.drop_take]

theorem eqGuard_int (op : BinOp) (t : TypeId) (u v : Operand) (k k' : IntKind) (x y : Int) : (eqGuard op t u v (.int k x) (.int k' y)).run P w = .ok () w := by
  unfold eqGuard; cases op <;> rfl
theorem eqGuard_str (op : BinOp) (t : TypeId) (u v : Operand) (x y : ByteArray) : (eqGuard op t u v (.string x) (.string y)).run P w = .ok () w := by
  unfold eqGuard; cases op <;> rfl

theorem binop_sound (hE : EnvOk P E) {op : BinOp} {t : TypeId} {x y v : SV} {ps : List Ob} (u u' : Operand) (h : binop E op t x y = some (ps, v)) (hp : allTrue ps) (hw : x.wf) (hw' : y.wf) :
    v.wf ∧ (do eqGuard op t u u' x.den y.den; binOp op t x.den y.den : Sem Value).run P w = .ok v.den w := by
  unfold binop at h
  split at h
  · rename_i k a k' b
    simp only [SV.den, Sem.run_bind, eqGuard_int, Result.andThen_ok]
    split at h
    · simp only [Option.some.injEq, Prod.mk.injEq] at h
      obtain ⟨rfl, rfl⟩ := h
      refine ⟨trivial, ?_⟩
      have hp1 : 0 ≤ b := hp.1
      simp [binOp, Op.shift, show ¬ b < 0 from by omega, SV.den]
    · simp only [Option.some.injEq, Prod.mk.injEq] at h
      obtain ⟨rfl, rfl⟩ := h
      refine ⟨trivial, ?_⟩
      have hp1 : 0 ≤ b := hp.1
      simp [binOp, Op.shift, show ¬ b < 0 from by omega, SV.den]
    · split at h
      · rename_i hk
        have hkk := kindEq_true hk
        subst hkk
        split at h
        all_goals first
          | (cases h; done)
          | (simp only [Option.some.injEq, Prod.mk.injEq] at h
             obtain ⟨rfl, rfl⟩ := h
             refine ⟨trivial, ?_⟩
             first
               | (simp [binOp, Op.intArith, Op.intBits, Op.intCmp, SV.den]; done)
               | (have hp1 : b ≠ 0 := hp.1
                  simp [binOp, Op.intDiv, hp1, SV.den]))
      · cases h
  · rename_i a b
    simp only [SV.den, Sem.run_bind, eqGuard_str, Result.andThen_ok]
    split at h
    · simp only [Option.some.injEq, Prod.mk.injEq] at h
      obtain ⟨rfl, rfl⟩ := h
      have hp1 : a.length + b.length ≤ 9223372036854775807 := hp.1
      refine ⟨by simp only [SV.wf, List.length_append]; omega, ?_⟩
      have e2 : ¬ (((a.length + b.length : Nat) : Int) > IntKind.i64.max) := by
        have e : IntKind.i64.max = 9223372036854775807 := by decide
        rw [e]
        omega
      simp only [binOp, Op.stringOp, SV.den, ba_size, ba_append]
      rw [if_neg e2]
      rfl
    · simp only [Option.some.injEq, Prod.mk.injEq] at h
      obtain ⟨rfl, rfl⟩ := h
      exact ⟨trivial, by simp [binOp, Op.stringOp, SV.den, ba_toList]⟩
    · simp only [Option.some.injEq, Prod.mk.injEq] at h
      obtain ⟨rfl, rfl⟩ := h
      exact ⟨trivial, by simp [binOp, Op.stringOp, SV.den, ba_toList]⟩
    · cases h
  · split at h
    · split at h
      · rename_i b hb
        simp only [Option.some.injEq, Prod.mk.injEq] at h
        obtain ⟨rfl, rfl⟩ := h
        exact ⟨trivial, (hE.eqc t x y b hb hw hw' w u u').1⟩
      · cases h
    · split at h
      · rename_i b hb
        simp only [Option.some.injEq, Prod.mk.injEq] at h
        obtain ⟨rfl, rfl⟩ := h
        exact ⟨trivial, (hE.eqc t x y b hb hw hw' w u u').2⟩
      · cases h
    · cases h


theorem ps_binOp (hE : EnvOk P E) (hA : Has N fr a) (hO : GOk a G) (hG : gHolds G) {op : BinOp} {t u : TypeId} {x y : Operand} {v : SV} {ps : List Ob} (ho : o.op = .binOp op t x y u) (h : pstep E fr H G (.binOp op t x y u) = some (ps, v)) (hp : allTrue ps) :
    v.wf ∧ (execOp a.eval o).run P w = .ok (.value v.den) w := by
  simp only [pstep] at h
  split at h
  · rename_i p hx
    split at h
    · rename_i q hy
      obtain ⟨e1, e2⟩ := ev_sound hA hO hG hx
      obtain ⟨f1, f2⟩ := ev_sound hA hO hG hy
      obtain ⟨g1, g2⟩ := binop_sound (P := P) (w := w) hE x y h hp e2 f2
      refine ⟨g1, ?_⟩
      simp only [execOp, ho, e1, f1, Sem.run_bind, Sem.run_pure] at g2 ⊢
      rw [g2]
      rfl
    · cases h
  · cases h

theorem ps_unOp (hA : Has N fr a) (hO : GOk a G) (hG : gHolds G) {op : UnOp} {t : TypeId} {x : Operand} {v : SV} {ps : List Ob} (ho : o.op = .unOp op t x) (h : pstep E fr H G (.unOp op t x) = some (ps, v)) :
    v.wf ∧ (execOp a.eval o).run P w = .ok (.value v.den) w := by
  simp only [pstep] at h
  split at h
  · rename_i p hx
    obtain ⟨e1, e2⟩ := ev_sound hA hO hG hx
    unfold unop at h
    split at h <;> first
      | (cases h; done)
      | (simp only [Option.some.injEq, Prod.mk.injEq] at h
         obtain ⟨_, rfl⟩ := h
         exact ⟨trivial, by simp [execOp, ho, e1, SV.den, Op.unary, Op.intArith, Op.intBits]⟩)
  · cases h

theorem row_sound {g b off : Nat} {p : List PS} {wd : Nat} {z : Bool} {ps : List Ob} {M : Nat} {get : Nat → SV} (h : rowOf H g b off p wd z = some (ps, M, get)) (hp : allTrue ps) (hS : Sat C H w) (hz : z = false) :
    ∀ k, k < M → (get k).wf ∧ (get k).nt = true ∧ (get k).sz = wd ∧ Holds w b (off + (pathOff p + k * wd)) (get k) := by
  unfold rowOf at h
  split at h
  · rename_i e he
    have hent := hS.ents e (find_mem H g e he).1
    split at h
    · split at h
      case h_2 => cases h
      rename_i hf
      simp only [Option.some.injEq, Prod.mk.injEq] at h
      obtain ⟨rfl, rfl, rfl⟩ := h
      obtain ⟨p1, p3, _⟩ := hp
      have p3 := beqN p3
      intro k hk
      obtain ⟨r1, rn, r2⟩ := hent.row k hk
      rw [hf] at r2 rn
      refine ⟨wfF_wf r1 (isM_nt rn), rn, by rw [r2.1, p3], ?_⟩
      have := r2.2
      rw [p1.1, p1.2, p3] at this
      simpa [pathOff] using this
    · rename_i i0 wd0 r
      split at h
      · rename_i qs n wd' get' hn
        simp only [Option.some.injEq, Prod.mk.injEq] at h
        obtain ⟨rfl, rfl, rfl⟩ := h
        obtain ⟨r1', r3, p5, p7⟩ := loc_sound hp hent
        have r1 := wfF_wf r1' (nav_isM hn)
        have p5 := beqN p5
        subst p5
        obtain ⟨n1, n2, n3⟩ := nav_sound r _ _ qs hn p7 r1
        have hh := r3.sub n2 n3
        intro k hk
        obtain ⟨w1, w2, w3⟩ := n1 k hk
        refine ⟨w1, w3, w2, fun j hj => ?_⟩
        have hle : (k + 1) * wd' ≤ n * wd' := Nat.mul_le_mul_right _ hk
        rw [Nat.succ_mul] at hle
        have := hh (k * wd' + j) (by simp only [SV.sz]; omega)
        rw [SV.flat, get_flatMap_range (fun k => (get' k).flat) wd' n (fun i hi => by rw [len_flat _ (n1 i hi).1, (n1 i hi).2.1]) k j hk (by omega)] at this
        rw [← this]
        simp only [pathOff, PS.off]
        congr 2
        omega
      · cases h
    · cases h
  · simp only [Option.some.injEq, Prod.mk.injEq] at h
    obtain ⟨rfl, rfl, rfl⟩ := h
    have : z = true := hp.1
    rw [hz] at this
    cases this

/-- Bytes pushed one by one. -/
theorem foldl_push_ints : ∀ (l : List Int) (r : ByteArray), l.foldl (fun r n => r.push (UInt8.ofNat n.toNat)) r = ⟨r.data ++ (l.map fun n => UInt8.ofNat n.toNat).toArray⟩
  | [], r => by simp
  | b :: l, r => by
    simp only [List.foldl_cons]
    rw [foldl_push_ints l]
    simp [ByteArray.push]
theorem ps_convert (hE : EnvOk P E) (hA : Has N fr a) (hO : GOk a G) (hG : gHolds G) {s d : TypeId} {x : Operand} {v : SV} {ps : List Ob} (ho : o.op = .convert s d x) (h : pstep E fr H G (.convert s d x) = some (ps, v)) (hp : allTrue ps) (hS : Sat C H w) :
    v.wf ∧ (execOp a.eval o).run P w = .ok (.value v.den) w := by
  simp only [pstep] at h
  split at h
  · rename_i k n hx
    obtain ⟨e1, e2⟩ := ev_sound hA hO hG hx
    split at h
    · rename_i s1 s2 k' z hti
      split at h
      · rename_i si hsi
        simp only [Option.some.injEq, Prod.mk.injEq] at h
        obtain ⟨_, rfl⟩ := h
        obtain ⟨t0, dd, ht⟩ := hE.ty d _ hti
        obtain ⟨t1, ds, hs⟩ := hE.ty s _ hsi
        have hd : dd = .int k' := ht.kind
        subst hd
        refine ⟨trivial, ?_⟩
        simp [execOp, ho, e1, SV.den, convert, run_underlying ht.under, run_underlying hs.under, Conv.intToInt]
      · cases h
    · cases h
  · rename_i l hx
    obtain ⟨e1, e2⟩ := ev_sound hA hO hG hx
    split at h
    · rename_i s1 s2 z hti
      split at h
      · rename_i s3 s4 z2 hsi
        simp only [Option.some.injEq, Prod.mk.injEq] at h
        obtain ⟨_, rfl⟩ := h
        obtain ⟨t0, dd, ht⟩ := hE.ty d _ hti
        obtain ⟨t1, ds, hs⟩ := hE.ty s _ hsi
        have hd : dd = .string := ht.kind
        have hd2 : ds = .string := hs.kind
        subst hd hd2
        refine ⟨e2, ?_⟩
        simp [execOp, ho, e1, SV.den, convert, run_underlying ht.under, run_underlying hs.under]
      · cases h
    · cases h
  · rename_i g b off p wd i n c z hx
    obtain ⟨e1, e2⟩ := ev_sound hA hO hG hx
    split at h
    · rename_i s1 s2 z1 hti
      split at h
      · rename_i s3 s4 e z2 hsi
        split at h
        · rename_i s5 s6 z3 hte
          split at h
          · rename_i qs m get hr
            simp only [Option.some.injEq, Prod.mk.injEq] at h
            obtain ⟨rfl, rfl⟩ := h
            obtain ⟨t0, dd, ht⟩ := hE.ty d _ hti
            obtain ⟨t1, ds, hs⟩ := hE.ty s _ hsi
            obtain ⟨t2, de, he⟩ := hE.ty e _ hte
            have hd : dd = .string := ht.kind
            have hd2 : ds = .slice e := hs.kind
            have hd3 : de = .int .u8 := he.kind
            subst hd hd2 hd3
            obtain ⟨p1, p2, p3, p4⟩ := hp
            have p1 : sh i n ≤ m := p1
            have p2 := beqN p2
            have p3 : ∀ k, k < n → isU8 (get (sh i k)) = true := p3
            rw [sh_eq] at p1
            refine ⟨by show ((List.range n).map _).length ≤ _; rw [List.length_map, List.length_range]; exact Nat.le_trans e2.2.1 e2.2.2, ?_⟩
            cases z with
            | true =>
              obtain ⟨h1, h2⟩ := e2.1 rfl
              subst h1
              simp [execOp, ho, e1, SV.den, convert, run_underlying ht.under, run_underlying hs.under, run_underlying he.under, Conv.bytesToString, Byt.of]
              rfl
            | false =>
              have hrow := row_sound hr p4 hS rfl
              have hget : ∀ j, j < n → w.cell? ⟨b, off + (pathOff p + i * wd) + j, none⟩ = some (.int .u8 (intOf (get (i + j)))) := fun j hj => by
                obtain ⟨r1, r2, r3, r4⟩ := hrow (i + j) (by omega)
                have h5 := p3 j hj
                have h6 := r4 0 (by rw [r3, p2]; exact Nat.one_pos)
                rw [sh_eq] at h5
                have h7 : off + (pathOff p + i * wd) + j = off + (pathOff p + (i + j) * wd) + 0 := by rw [p2]; omega
                rw [h7, h6]
                unfold isU8 at h5
                split at h5
                · rename_i x hx
                  rw [hx]
                  rfl
                · cases h5
              have hl := run_loadCells_list (P := P) w ⟨b, off + (pathOff p + i * wd), none⟩ (((List.range n).map fun j => intOf (get (i + j))).map (Value.int .u8)) (fun j v hj => by
                have hj' : j < n := by
                  have := (List.getElem?_eq_some_iff.1 hj).1
                  simpa using this
                rw [add_none, hget j hj']
                simp [hj'] at hj
                rw [← hj])
              simp only [List.length_map, List.length_range] at hl
              have hc := run_bytesToString (P := P) w ⟨b, off + (pathOff p + i * wd), none⟩ n c _ hl
              rw [foldl_push_ints] at hc
              have hb : (convert s d (.slice (some ⟨b, off + (pathOff p + i * wd), none⟩) n c)).run P w = .ok (.string ⟨(Byt.of (fun k => intOf (get (sh i k))) n).toArray⟩) w := by
                rw [run_convert_bytes_string (P := P) w s d e _ n c hs.under he.under ht.under, hc]
                have he0 : ByteArray.empty.data = #[] := rfl
                rw [he0]
                simp only [Byt.of, List.map_map, sh_eq]
                simp
              simp only [execOp, ho, e1, SV.den, Sem.run_bind, Bool.false_eq_true, if_false, hb, Result.andThen_ok, Sem.run_pure]
          · cases h
        · cases h
      · cases h
    · cases h
  · cases h

theorem denL_mem {l : List SV} {k : Nat} {v : SV} (h : l[k]? = some v) : (SV.denL l)[k]? = some v.den := by
  rw [denL_eq, List.getElem?_map, h]
  rfl
theorem ps_extract (hA : Has N fr a) (hO : GOk a G) (hG : gHolds G) {k : Nat} {x : Operand} {v : SV} {ps : List Ob} (ho : o.op = .extract x k) (h : pstep E fr H G (.extract x k) = some (ps, v)) :
    v.wf ∧ (execOp a.eval o).run P w = .ok (.value v.den) w := by
  simp only [pstep] at h
  split at h
  · rename_i l hx
    obtain ⟨e1, e2⟩ := ev_sound hA hO hG hx
    split at h
    · rename_i u hu
      simp only [Option.some.injEq, Prod.mk.injEq] at h
      obtain ⟨_, rfl⟩ := h
      rw [nth_eq] at hu
      refine ⟨(wfL_iff l).1 e2 u (List.mem_of_getElem? hu), ?_⟩
      simp [execOp, ho, e1, SV.den, Instr.extract, denL_mem hu]
    · cases h
  · cases h

theorem ps_typeAssert (hE : EnvOk P E) (hA : Has N fr a) (hO : GOk a G) (hG : gHolds G) {x : Operand} {xt t : TypeId} {c : Bool} {v : SV} {ps : List Ob} (ho : o.op = .typeAssert x xt t c) (h : pstep E fr H G (.typeAssert x xt t c) = some (ps, v)) :
    v.wf ∧ (execOp a.eval o).run P w = .ok (.value v.den) w := by
  cases c with
  | false => simp [pstep] at h
  | true =>
    simp only [pstep] at h
    split at h
    · rename_i ti hti
      obtain ⟨i0, d, ht⟩ := hE.ty t ti hti
      have hz : (zeroValue t).run P w = .ok ti.zero.den w := by simp [zeroValue, typeInfo, ht.info, ht.zero]
      have hni : ∀ ms, ti.kind ≠ .iface → ti.kind ≠ .other → d ≠ .interface ms := fun ms h1 h2 hd => by
        have hk := ht.kind
        rw [hd] at hk
        cases hkk : ti.kind <;> rw [hkk] at hk <;> simp_all [KOk]
      have key : ∀ (h1 : ti.kind ≠ .iface) (h2 : ti.kind ≠ .other), (match ev fr G x with
          | some (.iface d v) => (match Nat.beq d t with
            | true => some (([] : List Ob), SV.tup [v, .bool true])
            | false => some ([], .tup [ti.zero, .bool false]))
          | some (.val .nilIface) => some ([], .tup [ti.zero, .bool false])
          | _ => none) = some (ps, v) → v.wf ∧ (execOp a.eval o).run P w = .ok (.value v.den) w := by
        intro h1 h2 hq
        have hnd := fun ms => hni ms h1 h2
        split at hq
        · rename_i dt u hx
          obtain ⟨e1, e2⟩ := ev_sound hA hO hG hx
          have e2 : u.wf := e2
          split at hq
          · rename_i hb
            have hb := beqN hb
            subst hb
            simp only [Option.some.injEq, Prod.mk.injEq] at hq
            obtain ⟨_, rfl⟩ := hq
            refine ⟨⟨e2, trivial, trivial⟩, ?_⟩
            simp only [execOp, ho, e1, SV.den, Instr.typeAssert, Sem.run_bind, run_underlying ht.under, Result.andThen_ok]
            cases d <;> simp_all [SV.denL, SV.den]
          · rename_i hb
            have hb : ¬ dt = t := by rintro rfl; simp at hb
            simp only [Option.some.injEq, Prod.mk.injEq] at hq
            obtain ⟨_, rfl⟩ := hq
            refine ⟨⟨ht.zwf, trivial, trivial⟩, ?_⟩
            simp only [execOp, ho, e1, SV.den, Instr.typeAssert, Sem.run_bind, run_underlying ht.under, Result.andThen_ok]
            cases d <;> simp_all [SV.denL, SV.den]
        · rename_i hx
          obtain ⟨e1, e2⟩ := ev_sound hA hO hG hx
          simp only [Option.some.injEq, Prod.mk.injEq] at hq
          obtain ⟨_, rfl⟩ := hq
          refine ⟨⟨ht.zwf, trivial, trivial⟩, ?_⟩
          simp only [execOp, ho, e1, SV.den, Instr.typeAssert, Sem.run_bind, run_underlying ht.under, Result.andThen_ok]
          cases d <;> simp_all [SV.denL, SV.den]
        · cases hq
      cases hk : ti.kind <;> rw [hk] at h <;> first
        | (cases h; done)
        | exact key (by rw [hk]; intro q; cases q) (by rw [hk]; intro q; cases q) h
    · cases h
theorem ps_makeFunc (hA : Has N fr a) (hO : GOk a G) (hG : gHolds G) {f : Fn} {l m : Array Operand} {v : SV} {ps : List Ob} (ho : o.op = .makeFunc f l m) (h : pstep E fr H G (.makeFunc f l m) = some (ps, v)) :
    v.wf ∧ (execOp a.eval o).run P w = .ok (.value v.den) w := by
  simp only [pstep] at h
  split at h
  · rename_i x hx
    split at h
    · rename_i y hy
      simp only [Option.some.injEq, Prod.mk.injEq] at h
      obtain ⟨_, rfl⟩ := h
      obtain ⟨e1, e2⟩ := evs_sound hA hO hG _ _ hx
      obtain ⟨f1, f2⟩ := evs_sound hA hO hG _ _ hy
      refine ⟨⟨(wfL_iff _).2 e2, (wfL_iff _).2 f2⟩, ?_⟩
      have l1 : l.map a.eval = (SV.denL x).toArray := by rw [← e1]; apply Array.ext'; simp
      have l2 : m.map a.eval = (SV.denL y).toArray := by rw [← f1]; apply Array.ext'; simp
      simp [execOp, ho, SV.den, Instr.makeFunc, l1, l2]
    · cases h
  · cases h

theorem ps_makeInterface (hE : EnvOk P E) (hA : Has N fr a) (hO : GOk a G) (hG : gHolds G) {t : TypeId} {x : Operand} {v : SV} {ps : List Ob} (ho : o.op = .makeInterface t x) (h : pstep E fr H G (.makeInterface t x) = some (ps, v)) (hp : allTrue ps) :
    v.wf ∧ (execOp a.eval o).run P w = .ok (.value v.den) w := by
  simp only [pstep] at h
  split at h
  · rename_i u hx
    obtain ⟨e1, e2⟩ := ev_sound hA hO hG hx
    split at h
    · cases h
    · cases h
    · rename_i ti _ _ hti
      simp only [Option.some.injEq, Prod.mk.injEq] at h
      obtain ⟨_, rfl⟩ := h
      obtain ⟨t0, dd, ht⟩ := hE.ty t _ hti
      refine ⟨e2, ?_⟩
      have hk := ht.kind
      have hni : ∀ ms, dd ≠ .interface ms := by
        rintro ms rfl
        obtain ⟨sz, by0, k, z⟩ := ti
        cases k <;> simp_all [KOk]
      simp only [execOp, ho, e1, SV.den, Instr.makeInterface, Sem.run_bind, run_underlying ht.under, Result.andThen_ok]
      first
        | (split
           · rename_i ms hms; exact absurd rfl (hni ms)
           · simp)
        | simp
    · cases h
  · cases h
end
end Eng
