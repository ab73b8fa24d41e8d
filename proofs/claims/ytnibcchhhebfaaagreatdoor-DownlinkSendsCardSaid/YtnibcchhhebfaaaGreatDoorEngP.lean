/-
  OWN WORK. THE ENGINE, part P: contracts that are shown by hand; a slice that is nil.
-/
import Derived.Test.YtnibcchhhebfaaaGreatDoorEngO
namespace Eng
open Go
set_option linter.unusedVariables false
set_option linter.unusedSimpArgs false

section
variable {P : Program} {H : Hp} {C : Ctx} {w w' : World}
/-- A contract whose calls are shown by hand. -/
theorem ecC_hand {α Y : Type} {L : ArgL α} {pre : α → List Prop} {post : α → Y → Prop} {res : α → Y → SV} {ents : α → Y → Hp} {k : Nat} {f : FuncId} (hgo : GoFn P f)
    (h : ∀ x, allT (pre x) → (∀ v ∈ L.svs 0 x, v.wf) → ∀ C w, Sat C (L.hp 0 x) w → Calls P f (SV.denL (L.svs 0 x)).toArray w fun e w' => ∃ y, post x y ∧ (res x y).wf ∧ e = .returned (res x y).den ∧ Sat C (ents x y) w')
    (ho : ∀ x y, ∀ e ∈ ents x y, e.own = true) : EcOk P f (ecC L pre post res ents k) := by
  intro args H nx K hc hw
  refine ⟨hgo, fun C w hS => ?_⟩
  unfold ecC at hc
  split at hc
  · rename_i qs x hx
    split at hc
    · rename_i hB
      rw [allL_iff] at hc
      obtain ⟨p1, hc⟩ := hc
      replace hc := hc x rfl
      rw [allL_iff] at hc
      obtain ⟨p2, hc⟩ := hc
      obtain ⟨d, _, _, g, e⟩ := L.ok args H qs x hx p1 hw ⟨C, w, hS⟩ 0
      have hS0 := src_view hS hB e ((L.tg 0 x).1.imp fun h _ _ => h)
      rw [← d]
      refine (h x ((pOb_true _).1 p2) g _ w hS0).mono ?_
      rintro e w' ⟨y, k1, k5, rfl, k6⟩
      have hr := rt_eq (tau (L.om 0 args H ++ L.rm 0 args H) L.tags nx) (res x y)
      have hS1 := (hS.split (sndL (L.om 0 args H))).unframe (rt_sat (tau (L.om 0 args H ++ L.rm 0 args H) L.tags nx) k6)
      rw [unfr_all (fun e he => by
        rw [hprt_eq] at he
        obtain ⟨u, hu, rfl⟩ := List.mem_map.1 he
        have := ho x y u hu
        cases u; exact this)] at hS1
      exact ⟨_, _, nx + k, hc y k1, hr.2.2.2.2 k5, by rw [hr.1], hS1⟩
    · exact hc.elim
  · exact hc.elim
/-- A slice that is nil. -/
def Arg.nilS : Arg Unit where
  get := fun v _ => match v with
    | .slice _ _ _ _ _ _ _ _ z => some ([.p (z = true)], ())
    | _ => none
  sv := fun _ _ => nilSlice
  hp := fun _ _ => []
  om := fun _ _ _ => []
  rt := fun _ _ => []
  tags := 0
  tg := fun t _ => .nil t 0
  ok := by
    intro v H ps x h hp hw _ t
    split at h
    · rename_i z
      simp only [Option.some.injEq, Prod.mk.injEq] at h
      obtain ⟨rfl, _⟩ := h
      have hz : z = true := hp.1
      subst hz
      obtain ⟨h1, h2⟩ := hw.1 rfl
      subst h1 h2
      exact ⟨⟨rfl, rfl, ⟨fun _ => ⟨rfl, rfl⟩, Nat.le_refl _, by omega⟩, rfl⟩, fun _ h => by cases h⟩
    · cases h
instance : Arg.RO Arg.nilS := ⟨fun _ _ _ h => by cases h⟩
end
end Eng
