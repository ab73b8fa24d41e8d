/-
  OWN WORK. Units of the file protocol, in plain Lean: two units with one encoding are one.
-/
import Derived.Test.YtfmbmiiioojbeaaGreatL9
namespace Rc
open Go
set_option linter.unusedVariables false
set_option linter.unusedSimpArgs false
theorem byI_inj {n n' : Int} {m : Nat} (h0 : 0 ≤ n) (h1 : n < ((256 ^ m : Nat) : Int)) (h0' : 0 ≤ n') (h1' : n' < ((256 ^ m : Nat) : Int)) (h : byI n m = byI n' m) : n = n' := by
  have e := rd_num (r := []) h0 h1
  have e' := rd_num (r := []) h0' h1'
  rw [h] at e
  exact e.symm.trans e'
theorem byI_app {n n' : Int} {m : Nat} {r r' : List UInt8} (h0 : 0 ≤ n) (h1 : n < ((256 ^ m : Nat) : Int)) (h0' : 0 ≤ n') (h1' : n' < ((256 ^ m : Nat) : Int)) (h : byI n m ++ r = byI n' m ++ r') : n = n' ∧ r = r' := by
  obtain ⟨a, b⟩ := List.append_inj h (by rw [byI_len, byI_len])
  exact ⟨byI_inj h0 h1 h0' h1' a, b⟩
theorem gapsOk_mem : ∀ (l : List (Int × Int)) (last : Int), -1 ≤ last → gapsOk last l → ∀ g ∈ l, 0 ≤ g.1 ∧ g.1 < 65536 ∧ 0 ≤ g.2 ∧ g.2 < 65536
  | [], _, _, _, g, hg => by cases hg
  | x :: r, last, hl, h, g, hg => by
    obtain ⟨a, b, c, d⟩ := h
    rcases List.mem_cons.1 hg with q | q
    · subst q; exact ⟨by omega, by omega, by omega, by omega⟩
    · exact gapsOk_mem r x.2 (by omega) d g q
theorem putU_inj {u v : U} (hu : okU u) (hv : okU v) (su : inR u.sum 0 4294967295) (sv : inR v.sum 0 4294967295) (h : putU u = putU v) : u = v := by
  rw [putU, putU, if_pos hu, if_pos hv, sealL, sealL] at h
  obtain ⟨h, _⟩ := List.append_inj' h (by rw [byI_len, byI_len])
  obtain ⟨⟨n0, n1⟩, fu, ou⟩ := hu
  obtain ⟨⟨m0, m1⟩, fv, ov⟩ := hv
  have kk : ∀ {u : U}, fitU u → 1 ≤ u.kind ∧ u.kind ≤ 6 := fun {u} hf => by
    by_cases k1 : u.kind = 1; exact ⟨by omega, by omega⟩
    by_cases k2 : u.kind = 2; exact ⟨by omega, by omega⟩
    by_cases k3 : u.kind = 3; exact ⟨by omega, by omega⟩
    by_cases k4 : u.kind = 4; exact ⟨by omega, by omega⟩
    by_cases k5 : u.kind = 5; exact ⟨by omega, by omega⟩
    by_cases k6 : u.kind = 6; exact ⟨by omega, by omega⟩
    simp [fitU, k1, k2, k3, k4, k5, k6] at hf
  have ku := kk fu
  have kv := kk fv
  obtain ⟨e1, h⟩ := byI_app (by omega) (by show u.kind < 256; omega) (by omega) (by show v.kind < 256; omega) h
  obtain ⟨e2, h⟩ := byI_app n0 (by show u.number < 65536; omega) m0 (by show v.number < 65536; omega) h
  obtain ⟨s0, s1⟩ := su
  obtain ⟨s2, s3⟩ := sv
  rw [← ou, ← ov]
  have k : u.kind = 1 ∨ u.kind = 2 ∨ u.kind = 3 ∨ u.kind = 4 ∨ u.kind = 5 ∨ u.kind = 6 := by omega
  unfold fitU at fu fv
  unfold bodyU at h
  unfold only
  rw [← e1] at fv h ⊢
  rcases k with k | k | k | k | k | k <;> simp [k] at fu fv h ⊢
  · obtain ⟨a, b⟩ := byI_app fu.2.1 (by have := fu.2.2; show u.size < 65536; omega) fv.2.1 (by have := fv.2.2; show v.size < 65536; omega) h
    exact ⟨e2, b, a⟩
  · obtain ⟨a, b⟩ := byI_app fu.2.1 (by have := fu.2.2; show u.offset < 65536; omega) fv.2.1 (by have := fv.2.2; show v.offset < 65536; omega) h
    exact ⟨e2, a, b⟩
  · obtain ⟨a, h⟩ := byI_app fu.1.1 (by have := fu.1.2; show u.why < 256; omega) fv.1.1 (by have := fv.1.2; show v.why < 256; omega) h
    obtain ⟨b, h⟩ := byI_app fu.2.1 (by have := fu.2.2; show u.size < 65536; omega) fv.2.1 (by have := fv.2.2; show v.size < 65536; omega) h
    have c := byI_inj s0 (by show u.sum < 4294967296; omega) s2 (by show v.sum < 4294967296; omega) h
    exact ⟨e2, b, c, a⟩
  · have a := byI_inj fu.1 (by have := fu.2; show u.why < 256; omega) fv.1 (by have := fv.2; show v.why < 256; omega) h
    exact ⟨e2, a⟩
  · obtain ⟨a, h⟩ := List.append_inj h (by rw [byI_len, byI_len])
    have hg := congrArg decG h
    rw [decG_gapsL _ (gapsOk_mem _ _ (by omega) fu.1), decG_gapsL _ (gapsOk_mem _ _ (by omega) fv.1)] at hg
    refine ⟨e2, ?_, hg⟩
    cases hx : u.me <;> cases hy : v.me <;> rw [hx, hy] at a <;> first | rfl | exact absurd a (by decide)
  · have a := byI_inj (m := 1) (by omega) (by show u.of < 256; omega) (by omega) (by show v.of < 256; omega) h
    exact ⟨e2, a⟩
theorem unB_putU {u : U} (hu : okU u) (su : inR u.sum 0 4294967295) : unB (putU u) = u := by
  have hg : goodB (putU u) := ⟨u, ⟨hu, su⟩, rfl⟩
  obtain ⟨⟨a, b⟩, c⟩ := unB_ok hg
  exact (putU_inj hu a su b c).symm
theorem goodB_putU {u : U} (hu : okU u) (su : inR u.sum 0 4294967295) : goodB (putU u) := ⟨u, ⟨hu, su⟩, rfl⟩
end Rc
