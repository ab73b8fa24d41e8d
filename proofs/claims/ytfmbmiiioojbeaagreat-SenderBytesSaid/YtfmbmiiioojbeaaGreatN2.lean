/-
  OWN WORK. Sender: slices.Collect of the keys, of the values of its map: contracts for the engine.
-/
import Derived.Test.YtfmbmiiioojbeaaGreatN1
namespace Rc
open Go Go.Proofs Eng Go.RowKit
set_option linter.unusedVariables false
set_option linter.unusedSimpArgs false
set_option maxRecDepth 100000
set_option maxHeartbeats 4000000
abbrev RowK := Nat × Nat × Nat
/-- A new row. -/
abbrev rowM (t : TypeId) (g n : Nat) (get : Nat → SV) (y : RowK) : Ent := ⟨g, y.1, y.2.1, 1, n, get, true, false, y.2.2, t, decide (n = 0), none⟩
abbrev slM (g n : Nat) (y : RowK) : SV := .slice g y.1 y.2.1 [] 1 0 n y.2.2 (decide (n = 0))
abbrev capM (n : Nat) (y : RowK) : Prop := n ≤ y.2.2 ∧ y.2.2 ≤ 9223372036854775807 ∧ (n = 0 → y.2.2 = 0)
/-- It takes one cell. -/
def oneC (v : SV) : Prop := v.wf ∧ v.nt = true ∧ v.sz = 1 ∧ v.flat = [v.den]
theorem oneC_int (k : IntKind) (x : Int) : oneC (.int k x) := ⟨trivial, rfl, rfl, rfl⟩
theorem oneC_ptr (g b o : Nat) (p : List PS) : oneC (.ptr g b o p) := ⟨trivial, rfl, rfl, rfl⟩
theorem sat_row {C : Ctx} {H : Hp} {w w' : World} (hS : Sat C H w) (hb : Below w.heap.size w w') {t : TypeId} {n : Nat} {xs : List Value} {v : Value} (hr : w'.ownsRow w.heap.size t 1 v n xs) (hnil : v = .slice none 0 0 ↔ n = 0) (g : Nat) (get : Nat → SV) (hx : ∀ i, i < n → xs[i]? = some (get i).den) (hg : ∀ i, i < n → oneC (get i)) :
    ∃ y : RowK, capM n y ∧ v = (slM g n y).den ∧ Sat C (rowM t g n get y :: H) w' := by
  have hk : Kept (Own w) w' := ⟨hb.os, hb.tape, hb.output, hb.size, fun k hk _ => hb.block k hk⟩
  have hS' := hS.trans_own hk
  by_cases hn : n = 0
  · subst hn
    rw [hnil.2 rfl]
    refine ⟨(0, 0, 0), ⟨Nat.le_refl _, by decide, fun _ => rfl⟩, rfl, hS'.kept, fun e he => ?_, List.pairwise_cons.2 ⟨fun x hx _ hz => by simp at hz, hS'.apart⟩⟩
    rcases List.mem_cons.1 he with he | he
    · subst he
      exact ⟨(fun q => by cases q), (fun q => by cases q), (fun _ => ⟨rfl, rfl⟩), (fun _ q _ => by cases q), (fun f hf => by cases hf), (fun f hf => by cases hf), (fun i hi => by simp at hi)⟩
    · exact hS'.ents e he
  · rcases hr.2 with ⟨_, q⟩ | ⟨b, cap, cur, rfl, h1, h2, h3, h4, h5, h6⟩
    · exact absurd q hn
    · have hd : decide (n = 0) = false := decide_eq_false hn
      refine ⟨(b, 0, cap), ⟨h3, h4, fun q => absurd q hn⟩, by simp [slM, SV.den, pathOff, hd], hS'.kept, fun e he => ?_, List.pairwise_cons.2 ⟨fun x hx _ _ _ hz k h1' h2' => ?_, hS'.apart⟩⟩
      · rcases List.mem_cons.1 he with he | he
        · subst he
          refine ⟨(fun q => by cases q), (fun q => by cases q), (fun q => by dsimp only [rowM] at q; rw [hd] at q; cases q), fun _ _ _ => ⟨.inl ?_, h3, cur, (0, 0), h2, by dsimp only; omega, fun k _ => by omega⟩, (fun f hf => by cases hf), (fun f hf => by cases hf), fun i hi => ?_⟩
          · show C.w0.heap.size ≤ b
            exact Nat.le_trans hS.kept.size h1
          · have hi : i < n := hi
            obtain ⟨g1, g2, g3, g4⟩ := hg i hi
            refine ⟨.inl g1, g2, g3, fun k hk => ?_⟩
            have hk : k < (get i).sz := hk
            have hk0 : k = 0 := by rw [g3] at hk; omega
            subst hk0
            show w'.cell? ⟨b, 0 + i * 1 + 0, none⟩ = (get i).flat[0]?
            rw [g4]
            have e1 : cur[i]? = some (get i).den := by
              rw [← hx i hi, ← h6]
              simp only [Nat.mul_one, List.getElem?_take, hi, if_true, Array.getElem?_toList]
            simp [World.cell?, h2, e1]
        · exact hS'.ents e he
      · have hlt := (hS.ents x hx).lt hz hS.kept k h2'
        have h1' : k = b := h1'
        omega
/-- The map that a function value has captured. -/
def boxMap (v : SV) (H : Hp) : Option (Nat × Nat × Nat × List Ob × (Int → Bool) × (Int → SV)) := match v with
  | .fn (.func f) [] [.ptr g b off p] => match H.find g with
    | some e => match e.fam with
      | none => match e.get 0 with
        | .map mg mb mi => match H.find mg with
          | some me => match me.fam with
            | some fm => match me.get mi with
              | .mobj h gt => some (f, b, mb, [.p (off + pathOff p = 0), .p (e.b = b), .p (e.off = 0), .p (0 < e.n), .p ((fm mi).1 = mb), .p (mi < me.n)], h, gt)
              | _ => none
            | none => none
          | none => none
        | _ => none
      | some _ => none
    | none => none
  | _ => none
theorem boxMap_is {v : SV} {H : Hp} {f b mb : Nat} {ps : List Ob} {h : Int → Bool} {gt : Int → SV} (hm : boxMap v H = some (f, b, mb, ps, h, gt)) (hps : allTrue ps) {C : Ctx} {w : World} (hS : Sat C H w) :
    v.den = .func (.func f) #[] #[.pointer (some ⟨b, 0, none⟩)] ∧ b < w.heap.size ∧ w.cell? ⟨b, 0, none⟩ = some (.map (some mb)) ∧ MapIs w mb h gt := by
  unfold boxMap at hm
  split at hm
  · rename_i f0 g0 b0 off p
    split at hm
    · rename_i e he
      split at hm
      · rename_i hf
        split at hm
        · rename_i mg mb0 mi hg
          split at hm
          · rename_i me hme
            split at hm
            · rename_i fm hfm
              split at hm
              · rename_i h0 gt0 hg0
                simp only [Option.some.injEq, Prod.mk.injEq] at hm
                obtain ⟨rfl, rfl, rfl, rfl, rfl, rfl⟩ := hm
                obtain ⟨p1, p2, p3, p4, p5, p6, _⟩ := hps
                have p1 : off + pathOff p = 0 := p1
                have p2 : e.b = b0 := p2
                have p3 : e.off = 0 := p3
                have p4 : 0 < e.n := p4
                have p5 : (fm mi).1 = mb0 := p5
                have p6 : mi < me.n := p6
                have hE := hS.ents e (find_mem H g0 e he).1
                obtain ⟨_, _, hrow⟩ := hE.row 0 p4
                rw [hf] at hrow
                have hrow : (e.get 0).sz = e.wd ∧ Holds w e.b (e.off + 0 * e.wd) (e.get 0) := hrow
                obtain ⟨_, hh⟩ := hrow
                have hc := hh 0 (by rw [hg]; exact Nat.one_pos)
                rw [hg, p2, p3] at hc
                have hc : w.cell? ⟨b0, 0 + 0 * e.wd + 0, none⟩ = some (.map (some mb0)) := hc
                have hz : 0 + 0 * e.wd + 0 = 0 := by omega
                rw [hz] at hc
                refine ⟨?_, World.block_lt_of_cell? w _ hc, hc, ?_⟩
                · show Value.func (.func f0) #[] #[.pointer (some ⟨b0, off + pathOff p, none⟩)] = _
                  rw [p1]
                · have := ((hS.ents me (find_mem H mg me hme).1).mob fm hfm mi p6 h0 gt0 hg0).2.2
                  rw [p5] at this
                  exact this
              · cases hm
            · cases hm
          · cases hm
        · cases hm
      · cases hm
    · cases hm
  · cases hm
theorem keys_list {h : Int → Bool} {ks : List (KeyOf h)} (hk : AllKeys h ks) : (ks.map (·.1)).Nodup ∧ ∀ x, h x = true ↔ x ∈ ks.map (·.1) :=
  ⟨hk.1, fun x => ⟨hk.2 x, fun q => by obtain ⟨k, _, rfl⟩ := List.mem_map.1 q; exact k.2⟩⟩
/-- slices.Collect of the keys: in some order. -/
def keysT (args : List SV) (H : Hp) (nx : Nat) (K : SV → Hp → Nat → Prop) : Prop := match args with
  | [v] => match boxMap v H with
    | some (f, _, _, ps, h, _) => allL (.c (Nat.beq f 77) :: .p (∀ x, h x = true → 0 ≤ x ∧ x < 65536) :: ps) (∀ (l : List Int) (y : RowK), l.Nodup → (∀ x, h x = true ↔ x ∈ l) → capM l.length y → K (slM nx l.length y) (rowM 3 nx l.length (fun k => .int .i64 (l.getD k 0)) y :: H) (nx + 1))
    | none => False
  | _ => False
/-- .. of the values. -/
def valsT (args : List SV) (H : Hp) (nx : Nat) (K : SV → Hp → Nat → Prop) : Prop := match args with
  | [v] => match boxMap v H with
    | some (f, _, _, ps, h, gt) => allL (.c (Nat.beq f 113) :: .p (∀ x, h x = true → 0 ≤ x ∧ x < 65536) :: .p (∀ x, h x = true → ∃ g b o p, gt x = .ptr g b o p) :: ps) (∀ (l : List Int) (y : RowK), l.Nodup → (∀ x, h x = true ↔ x ∈ l) → capM l.length y → K (slM nx l.length y) (rowM 75 nx l.length (fun k => gt (l.getD k 0)) y :: H) (nx + 1))
    | none => False
  | _ => False
theorem wide_fn {f : Nat} : Fence.wide.fn f := trivial
theorem slM_wf {g n : Nat} {y : RowK} (h : capM n y) : (slM g n y).wf := ⟨fun q => by have q : n = 0 := of_decide_eq_true q; exact ⟨q, h.2.2 q⟩, h.1, h.2.1⟩
theorem keysT_ok : EcOk Tryz.prog 75 keysT := by
  intro args H nx K hc hw
  refine ⟨goFn_of Tryz.func75 rfl rfl, fun C w hS => ?_⟩
  unfold keysT at hc
  split at hc
  · rename_i v
    split at hc
    · rename_i f b mb ps h gt hm
      rw [allL_iff] at hc
      obtain ⟨⟨p1, p2, p3⟩, hK⟩ := hc
      have p1 : f = _ := Nat.eq_of_beq_eq_true p1
      subst p1
      obtain ⟨e1, e2, e3, e4⟩ := boxMap_is hm p3 hS
      have hs := keys_gives (F := Fence.wide) (n := 1) (N := 65536) trivial rfl (Nat.le_refl _) (fun x hx => p2 x hx) e2 e3 e4
      have hcall := callsIn_wide.1 (ci_collect (fun x : KeyOf h => x.1) Fence.wide 3 trivial trivial rfl (Nat.le_refl _) _ _ trivial (enters_of Tryz.func77 (by kernel_rfl) rfl) _ _ (by decide) w hs)
      show Calls _ _ #[v.den] w _
      rw [e1]
      refine hcall.mono ?_
      rintro e w' ⟨u, ss, rfl, hA, hrow, hnil, hbl⟩
      obtain ⟨k1, k2⟩ := keys_list hA
      have hlen : (ss.map (·.1)).length = ss.length := List.length_map _
      obtain ⟨y, q1, rfl, q3⟩ := sat_row hS hbl hrow (hnil.trans List.length_eq_zero_iff.symm) nx (fun k => .int .i64 ((ss.map (·.1)).getD k 0)) (fun i hi => by simp [SV.den, List.getD, hi]) (fun i hi => oneC_int _ _)
      have := hK (ss.map (·.1)) y k1 k2 (by rw [hlen]; exact q1)
      rw [hlen] at this
      exact ⟨slM nx ss.length y, _, _, this, slM_wf q1, rfl, q3⟩
    · exact hc.elim
  · exact hc.elim
theorem valsT_ok : EcOk Tryz.prog 111 valsT := by
  intro args H nx K hc hw
  refine ⟨goFn_of Tryz.func111 rfl rfl, fun C w hS => ?_⟩
  unfold valsT at hc
  split at hc
  · rename_i v
    split at hc
    · rename_i f b mb ps h gt hm
      rw [allL_iff] at hc
      obtain ⟨⟨p1, p2, p4, p3⟩, hK⟩ := hc
      have p1 : f = _ := Nat.eq_of_beq_eq_true p1
      subst p1
      obtain ⟨e1, e2, e3, e4⟩ := boxMap_is hm p3 hS
      have hpt : ∀ x : KeyOf h, ∃ q, (gt x.1).den = .pointer q := fun x => by obtain ⟨g, b, o, p, e⟩ := p4 x.1 x.2; rw [e]; exact ⟨_, rfl⟩
      have hen : (fun x : KeyOf h => (gt x.1).den) = fun x => .pointer (Classical.choose (hpt x)) := funext fun x => Classical.choose_spec (hpt x)
      have hs := vals_gives (F := Fence.wide) (n := 1) (N := 65536) trivial rfl (Nat.le_refl _) (fun x hx => p2 x hx) e2 e3 e4
      rw [hen] at hs
      have hcall := callsIn_wide.1 (cp_collect (fun x : KeyOf h => Classical.choose (hpt x)) Fence.wide 3 trivial trivial rfl (Nat.le_refl _) _ _ trivial (enters_of Tryz.func113 (by kernel_rfl) rfl) _ _ (by decide) w hs)
      show Calls _ _ #[v.den] w _
      rw [e1]
      refine hcall.mono ?_
      rintro e w' ⟨u, ss, rfl, hA, hrow, hnil, hbl⟩
      obtain ⟨k1, k2⟩ := keys_list hA
      have hlen : (ss.map (·.1)).length = ss.length := List.length_map _
      rw [← hen] at hrow
      obtain ⟨y, q1, rfl, q3⟩ := sat_row hS hbl hrow (hnil.trans List.length_eq_zero_iff.symm) nx (fun k => gt ((ss.map (·.1)).getD k 0)) (fun i hi => by simp [List.getD, hi]) (fun i hi => by
        have hx : h ((ss.map (·.1)).getD i 0) = true := by simp only [List.getD, List.getElem?_map, List.getElem?_eq_getElem hi, Option.map_some, Option.getD_some]; exact (ss[i]).2
        obtain ⟨g, b, o, p, e⟩ := p4 _ hx
        rw [e]
        exact oneC_ptr _ _ _ _)
      have := hK (ss.map (·.1)) y k1 k2 (by rw [hlen]; exact q1)
      rw [hlen] at this
      exact ⟨slM nx ss.length y, _, _, this, slM_wf q1, rfl, q3⟩
    · exact hc.elim
  · exact hc.elim
/-! ### where at most one key is known -/
theorem one_list {l m : List Int} (h1 : l.Nodup) (h2 : ∀ x, x ∈ m ↔ x ∈ l) (h3 : m.length ≤ 1) : l = m := by
  match m, h3 with
  | [], _ => cases l with
    | nil => rfl
    | cons a r => exact absurd ((h2 a).2 (List.mem_cons_self ..)) (by simp)
  | [k], _ =>
    have hk : k ∈ l := (h2 k).1 (by simp)
    have ha : ∀ x ∈ l, x = k := fun x hx => by simpa using (h2 x).2 hx
    match l, h1, hk, ha with
    | [a], _, _, ha => rw [ha a (by simp)]
    | a :: b :: r, h1, _, ha =>
      have e1 := ha a (by simp)
      have e2 := ha b (by simp)
      simp [e1, e2] at h1
/-- A row's entries are told anew. -/
theorem sat_row1 {C : Ctx} {H : Hp} {w : World} {g b off wd n cap : Nat} {get get' : Nat → SV} {own one z : Bool} {t : TypeId} (hS : Sat C (⟨g, b, off, wd, n, get, own, one, cap, t, z, none⟩ :: H) w) (hg : ∀ i, i < n → get' i = get i) : Sat C (⟨g, b, off, wd, n, get', own, one, cap, t, z, none⟩ :: H) w := by
  have h := hS.ents _ (List.mem_cons_self ..)
  obtain ⟨h1, h2⟩ := List.pairwise_cons.1 hS.apart
  refine ⟨hS.kept, fun e he => ?_, List.pairwise_cons.2 ⟨fun x hx => h1 x hx, h2⟩⟩
  rcases List.mem_cons.1 he with he | he
  · subst he
    exact ⟨h.one, h.ro, h.z, h.ow, (fun f hf => by cases hf), (fun f hf => by cases hf), fun i hi => by dsimp only; rw [hg i hi]; exact h.row i hi⟩
  · exact hS.ents e (List.mem_cons_of_mem _ he)
def isPtr : SV → Bool
  | .ptr _ _ _ _ => true
  | _ => false
theorem isPtr_is {v : SV} (h : isPtr v = true) : ∃ g b o p, v = .ptr g b o p := by
  cases v <;> first | (cases h; done) | exact ⟨_, _, _, _, rfl⟩
theorem sat_tail {C : Ctx} {e : Ent} {H : Hp} {w : World} (h : Sat C (e :: H) w) : Sat C H w := ⟨h.kept, fun x hx => h.ents x (List.mem_cons_of_mem _ hx), (List.pairwise_cons.1 h.apart).2⟩
def oneK (t : TypeId) (ok : SV → Bool) (get : Int → SV) (l : List Int) (ps : List Ob) (h : Int → Bool) (H : Hp) (nx : Nat) (K : SV → Hp → Nat → Prop) : Prop := match l with
  | [] => allL (.p (∀ x, h x = false) :: ps) (K nilSlice H nx)
  | [k] => allL (.p ((∀ x, h x = true ↔ x = k) ∧ 0 ≤ k ∧ k < 65536) :: .c (ok (get k)) :: ps) (∀ (y : RowK), 1 ≤ y.2.2 → y.2.2 ≤ 9223372036854775807 → K (.slice nx y.1 y.2.1 [] 1 0 1 y.2.2 false) (⟨nx, y.1, y.2.1, 1, 1, fun _ => get k, true, false, y.2.2, t, false, none⟩ :: H) (nx + 1))
  | _ => False
def keysK (tab : (Int → Bool) → List Int) (args : List SV) (H : Hp) (nx : Nat) (K : SV → Hp → Nat → Prop) : Prop := match args with
  | [v] => match boxMap v H with
    | some (f, _, _, ps, h, _) => oneK 3 (fun _ => true) (fun k => .int .i64 k) (tab h) (.c (Nat.beq f 77) :: ps) h H nx K
    | none => False
  | _ => False
def valsK (tab : (Int → Bool) → List Int) (args : List SV) (H : Hp) (nx : Nat) (K : SV → Hp → Nat → Prop) : Prop := match args with
  | [v] => match boxMap v H with
    | some (f, _, _, ps, h, gt) => oneK 75 isPtr gt (tab h) (.c (Nat.beq f 113) :: ps) h H nx K
    | none => False
  | _ => False
theorem ecOk_weak {P : Program} {f : FuncId} {S T : List SV → Hp → Nat → (SV → Hp → Nat → Prop) → Prop} (hS : EcOk P f S)
    (h : ∀ args H nx K, T args H nx K → S args H nx (fun r H' nx' => ∃ r2 H2 nx2, K r2 H2 nx2 ∧ (r.wf → r2.wf) ∧ r2.den = r.den ∧ ∀ C w, Sat C H' w → Sat C H2 w)) : EcOk P f T := by
  intro args H nx K hc hw
  obtain ⟨g1, g2⟩ := hS args H nx _ (h args H nx K hc) hw
  refine ⟨g1, fun C w hSat => (g2 C w hSat).mono ?_⟩
  rintro e w' ⟨r, H', nx', ⟨r2, H2, nx2, k1, k2, k3, k4⟩, q1, rfl, q2⟩
  exact ⟨r2, H2, nx2, k1, k2 q1, by rw [k3], k4 _ _ q2⟩
theorem one_of {l : List Int} {h : Int → Bool} {k : Int} (h1 : l.Nodup) (h2 : ∀ x, h x = true ↔ x ∈ l) (h3 : ∀ x, h x = true ↔ x = k) : l = [k] :=
  one_list h1 (fun x => by rw [← h2 x, h3 x]; simp) (Nat.le_refl _)
theorem none_of {l : List Int} {h : Int → Bool} (h2 : ∀ x, h x = true ↔ x ∈ l) (h3 : ∀ x, h x = false) : l = [] := by
  cases l with
  | nil => rfl
  | cons a r => have := (h2 a).2 (List.mem_cons_self ..); rw [h3 a] at this; cases this
theorem keysK_ok (tab : (Int → Bool) → List Int) : EcOk Tryz.prog 75 (keysK tab) := by
  refine ecOk_weak keysT_ok fun args H nx K hc => ?_
  unfold keysK at hc
  unfold keysT
  split at hc
  · rename_i v
    split at hc
    · rename_i f b mb ps h gt hm
      unfold oneK at hc
      split at hc
      · rw [allL_iff] at hc
        obtain ⟨⟨p4, p0, p2⟩, hK⟩ := hc
        have p4 : ∀ x, h x = false := p4
        rw [allL_iff]
        refine ⟨⟨p0, (fun x hx => by rw [p4 x] at hx; cases hx), p2⟩, fun l y q1 q2 q3 => ?_⟩
        obtain rfl := none_of q2 p4
        exact ⟨nilSlice, H, nx, hK, fun _ => ⟨fun _ => ⟨rfl, rfl⟩, Nat.le_refl _, by decide⟩, (by have := q3.2.2 rfl; show Value.slice none 0 0 = Value.slice none 0 y.2.2; rw [this]), fun C w hS => sat_tail hS⟩
      · rename_i k hk
        rw [allL_iff] at hc
        obtain ⟨⟨⟨p4, p5⟩, _, p0, p2⟩, hK⟩ := hc
        rw [allL_iff]
        refine ⟨⟨p0, (fun x hx => by rw [(p4 x).1 hx]; exact p5), p2⟩, fun l y q1 q2 q3 => ?_⟩
        obtain rfl := one_of q1 q2 p4
        refine ⟨_, _, _, hK y q3.1 q3.2.1, id, rfl, fun C w hS => ?_⟩
        refine sat_row1 hS (fun i hi => ?_)
        have hi : i = 0 := by have hi : i < 1 := hi; omega
        subst hi; rfl
      · exact hc.elim
    · exact hc.elim
  · exact hc.elim
theorem valsK_ok (tab : (Int → Bool) → List Int) : EcOk Tryz.prog 111 (valsK tab) := by
  refine ecOk_weak valsT_ok fun args H nx K hc => ?_
  unfold valsK at hc
  unfold valsT
  split at hc
  · rename_i v
    split at hc
    · rename_i f b mb ps h gt hm
      unfold oneK at hc
      split at hc
      · rw [allL_iff] at hc
        obtain ⟨⟨p4, p0, p2⟩, hK⟩ := hc
        have p4 : ∀ x, h x = false := p4
        rw [allL_iff]
        refine ⟨⟨p0, (fun x hx => by rw [p4 x] at hx; cases hx), (fun x hx => by rw [p4 x] at hx; cases hx), p2⟩, fun l y q1 q2 q3 => ?_⟩
        obtain rfl := none_of q2 p4
        exact ⟨nilSlice, H, nx, hK, fun _ => ⟨fun _ => ⟨rfl, rfl⟩, Nat.le_refl _, by decide⟩, (by have := q3.2.2 rfl; show Value.slice none 0 0 = Value.slice none 0 y.2.2; rw [this]), fun C w hS => sat_tail hS⟩
      · rename_i k hk
        rw [allL_iff] at hc
        obtain ⟨⟨⟨p4, p5⟩, p6, p0, p2⟩, hK⟩ := hc
        have p6 : (isPtr (gt k)) = true := p6
        rw [allL_iff]
        refine ⟨⟨p0, (fun x hx => by rw [(p4 x).1 hx]; exact p5), (fun x hx => by rw [(p4 x).1 hx]; exact isPtr_is p6), p2⟩, fun l y q1 q2 q3 => ?_⟩
        obtain rfl := one_of q1 q2 p4
        refine ⟨_, _, _, hK y q3.1 q3.2.1, id, rfl, fun C w hS => ?_⟩
        refine sat_row1 hS (fun i hi => ?_)
        have hi : i = 0 := by have hi : i < 1 := hi; omega
        subst hi; rfl
      · exact hc.elim
    · exact hc.elim
  · exact hc.elim
end Rc
