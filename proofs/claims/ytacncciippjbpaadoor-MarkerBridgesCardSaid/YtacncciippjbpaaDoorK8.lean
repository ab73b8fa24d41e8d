/-
  OWN WORK. Marker: a finder, plainly: a machine over the values from its place on.
-/
import Derived.Test.YtacncciippjbpaaDoorK6
namespace Mk
open Go Go.Proofs Eng
set_option linter.unusedVariables false
set_option linter.unusedSimpArgs false
set_option maxRecDepth 100000

def rowL (f : Nat → Int) : Nat → List Int
  | 0 => []
  | n + 1 => rowL f n ++ [f n]
theorem rowL_len (f : Nat → Int) : ∀ n, (rowL f n).length = n
  | 0 => rfl
  | n + 1 => by rw [rowL, List.length_append, rowL_len f n]; rfl
theorem rowL_congr {f g : Nat → Int} : ∀ {n : Nat}, (∀ i, i < n → f i = g i) → rowL f n = rowL g n
  | 0, _ => rfl
  | n + 1, h => by rw [rowL, rowL, rowL_congr fun i hi => h i (by omega), h n (by omega)]
theorem rowL_get (f : Nat → Int) {n i : Nat} (h : i < n) : (rowL f n).getD i 0 = f i := by
  induction n with
  | zero => omega
  | succ n ih =>
    rw [rowL]
    by_cases e : i = n
    · subst e
      simp [List.getD, rowL_len]
    · have hi : i < (rowL f n).length := by rw [rowL_len]; omega
      have := ih (by omega)
      simp only [List.getD] at this ⊢
      rw [List.getElem?_append_left hi]
      exact this
theorem ext_get {l m : List Int} (h : l.length = m.length) (hg : ∀ i, i < l.length → l.getD i 0 = m.getD i 0) : l = m := by
  apply List.ext_getElem h
  intro i h1 h2
  have := hg i h1
  simpa [List.getD, h1, h2] using this
theorem rowL_drop (f : Nat → Int) (n k : Nat) : (rowL f n).drop k = rowL (fun i => f (k + i)) (n - k) := by
  apply ext_get
  · rw [List.length_drop, rowL_len, rowL_len]
  · intro i hi
    rw [List.length_drop, rowL_len] at hi
    rw [rowL_get _ hi]
    have : ((rowL f n).drop k).getD i 0 = (rowL f n).getD (k + i) 0 := by simp [List.getD]
    rw [this, rowL_get _ (by omega)]
theorem rowL_take (f : Nat → Int) (n k : Nat) (h : k ≤ n) : (rowL f n).take k = rowL f k := by
  apply ext_get
  · rw [List.length_take, rowL_len, rowL_len]; omega
  · intro i hi
    rw [List.length_take, rowL_len] at hi
    rw [rowL_get _ (by omega)]
    have : ((rowL f n).take k).getD i 0 = (rowL f n).getD i 0 := by
      have : i < k := by omega
      simp [List.getD, List.getElem?_take, this]
    rw [this, rowL_get _ (by omega)]
theorem rowL_app (f g : Nat → Int) (n k : Nat) : rowL f n ++ rowL g k = rowL (fun i => if i < n then f i else g (i - n)) (n + k) := by
  apply ext_get
  · rw [List.length_append, rowL_len, rowL_len, rowL_len]
  · intro i hi
    rw [List.length_append, rowL_len, rowL_len] at hi
    rw [rowL_get _ hi]
    by_cases e : i < n
    · rw [if_pos e]
      have : (rowL f n ++ rowL g k).getD i 0 = (rowL f n).getD i 0 := by
        simp only [List.getD]
        rw [List.getElem?_append_left (by rw [rowL_len]; exact e)]
      rw [this, rowL_get _ e]
    · rw [if_neg e]
      have : (rowL f n ++ rowL g k).getD i 0 = (rowL g k).getD (i - n) 0 := by
        simp only [List.getD]
        rw [List.getElem?_append_right (by rw [rowL_len]; omega), rowL_len]
      rw [this, rowL_get _ (by omega)]
/-- A block that was found. -/
structure Bk where
  at_ : Int
  wg : Int
  soft : List Int
structure St where
  l : List Int
  pl : Int
  op : Bool
  wg : Int
  ms : Int
  lk : Bool
/-- How many of the first 32 values are other than the marker's. -/
def cnt (l : List Int) : Nat := wr (fun i => l.getD i 0) 32
theorem cnt_app {l : List Int} (m : List Int) (h : 32 ≤ l.length) : cnt (l ++ m) = cnt l := wr_congr fun i hi => by
  simp only [List.getD]
  rw [List.getElem?_append_left (by omega)]
/-- A step, for blocks of len values. -/
def mstp (len : Nat) (s : St) : Option (St × List Bk) :=
  if s.op then
    if 32 + len ≤ s.l.length then some (⟨s.l.drop (32 + len), s.pl + ((32 + len : Nat) : Int), false, 0, s.ms, s.lk⟩, [⟨s.pl, s.wg, (s.l.drop 32).take len⟩]) else none
  else if s.l.length < 32 then none
  else if cnt s.l ≤ 2 then some (⟨s.l, s.pl, true, (cnt s.l : Nat), 0, true⟩, [])
  else if s.lk = false then some (⟨s.l.drop 1, s.pl + 1, false, 0, s.ms, false⟩, [])
  else if s.ms + 1 = 3 then some (⟨s.l, s.pl, false, 0, 3, false⟩, [])
  else some (⟨s.l, s.pl, true, (cnt s.l : Nat), s.ms + 1, true⟩, [])
inductive Steps (len : Nat) : St → List Bk → St → Prop
  | refl (s : St) : Steps len s [] s
  | step {s t u : St} {a b : List Bk} (h : mstp len s = some (t, a)) (r : Steps len t b u) : Steps len s (a ++ b) u
theorem Steps.trans {len : Nat} {s t u : St} {a b : List Bk} (h : Steps len s a t) (h' : Steps len t b u) : Steps len s (a ++ b) u := by
  induction h with
  | refl s => exact h'
  | step h r ih => rw [List.append_assoc]; exact .step h (ih h')
theorem Steps.one {len : Nat} {s t : St} {a : List Bk} (h : mstp len s = some (t, a)) : Steps len s a t := by
  have := Steps.step h (.refl t)
  rwa [List.append_nil] at this
def Runs (len : Nat) (s : St) (a : List Bk) (t : St) : Prop := Steps len s a t ∧ mstp len t = none
/-- There is but one outcome. -/
theorem Steps.halt {len : Nat} {s t u : St} {a b : List Bk} (h : Steps len s a t) (h' : Steps len s b u) (hu : mstp len u = none) : ∃ c, b = a ++ c ∧ Steps len t c u := by
  induction h generalizing b with
  | refl s => exact ⟨b, rfl, h'⟩
  | step hs r ih =>
    cases h' with
    | refl => rw [hu] at hs; cases hs
    | step hs' r' =>
      rw [hs] at hs'
      simp only [Option.some.injEq, Prod.mk.injEq] at hs'
      obtain ⟨rfl, rfl⟩ := hs'
      obtain ⟨c, rfl, hc⟩ := ih r'
      exact ⟨c, by rw [List.append_assoc], hc⟩
theorem Steps.stuck {len : Nat} {s t : St} {a : List Bk} (h : Steps len s a t) (hs : mstp len s = none) : a = [] ∧ s = t := by
  cases h with
  | refl => exact ⟨rfl, rfl⟩
  | step h _ => rw [hs] at h; cases h
theorem Runs.uniq {len : Nat} {s t u : St} {a b : List Bk} (h : Runs len s a t) (h' : Runs len s b u) : a = b ∧ t = u := by
  obtain ⟨c, rfl, hc⟩ := h.1.halt h'.1 h'.2
  obtain ⟨rfl, rfl⟩ := hc.stuck h.2
  exact ⟨(List.append_nil a).symm, rfl⟩
/-- More values. -/
def St.push (s : St) (m : List Int) : St := ⟨s.l ++ m, s.pl, s.op, s.wg, s.ms, s.lk⟩
theorem mstp_push {len : Nat} {s t : St} {a : List Bk} (m : List Int) (h : mstp len s = some (t, a)) : mstp len (s.push m) = some (t.push m, a) := by
  unfold mstp at h ⊢
  unfold St.push
  dsimp only
  by_cases ho : s.op = true
  · rw [if_pos ho] at h
    rw [if_pos ho]
    by_cases hn : 32 + len ≤ s.l.length
    · rw [if_pos hn] at h
      rw [if_pos (by rw [List.length_append]; omega)]
      simp only [Option.some.injEq, Prod.mk.injEq] at h
      obtain ⟨rfl, rfl⟩ := h
      rw [List.drop_append_of_le_length hn, List.drop_append_of_le_length (by omega), List.take_append_of_le_length (by rw [List.length_drop]; omega)]
    · rw [if_neg hn] at h; cases h
  · rw [if_neg ho] at h
    rw [if_neg ho]
    by_cases hn : s.l.length < 32
    · rw [if_pos hn] at h; cases h
    · rw [if_neg hn] at h
      rw [if_neg (by rw [List.length_append]; omega), cnt_app m (by omega)]
      by_cases hc : cnt s.l ≤ 2
      · rw [if_pos hc] at h
        rw [if_pos hc]
        simp only [Option.some.injEq, Prod.mk.injEq] at h
        obtain ⟨rfl, rfl⟩ := h
        rfl
      · rw [if_neg hc] at h
        rw [if_neg hc]
        by_cases hl : s.lk = false
        · rw [if_pos hl] at h
          rw [if_pos hl]
          simp only [Option.some.injEq, Prod.mk.injEq] at h
          obtain ⟨rfl, rfl⟩ := h
          rw [List.drop_append_of_le_length (by omega)]
        · rw [if_neg hl] at h
          rw [if_neg hl]
          by_cases hm : s.ms + 1 = 3
          · rw [if_pos hm] at h
            rw [if_pos hm]
            simp only [Option.some.injEq, Prod.mk.injEq] at h
            obtain ⟨rfl, rfl⟩ := h
            rfl
          · rw [if_neg hm] at h
            rw [if_neg hm]
            simp only [Option.some.injEq, Prod.mk.injEq] at h
            obtain ⟨rfl, rfl⟩ := h
            rfl
theorem Steps.push {len : Nat} {s t : St} {a : List Bk} (m : List Int) (h : Steps len s a t) : Steps len (s.push m) a (t.push m) := by
  induction h with
  | refl s => exact .refl _
  | step h r ih => exact .step (mstp_push m h) ih
end Mk
