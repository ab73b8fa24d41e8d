/-
  OWN WORK. Block: Decode.
-/
import Derived.Test.YtoefjmachoakpaaGreatDoorBA
namespace Galois
open Go Go.Proofs Eng
set_option linter.unusedVariables false
set_option linter.unusedSimpArgs false
set_option maxHeartbeats 8000000
set_option maxRecDepth 100000

/-- The erased places, each once, in their order. -/
def ownL (er : Nat → Int) (n : Nat) : List Int := ddL (sortF n er) n
def gL (l : List Int) (k : Nat) : Int := l.getD k 0
/-- With e places that are wrong besides. -/
def allL2 (b : List UInt8) (own : List Int) (e : Nat) : List Int := own ++ (plL b (gL own) own.length e b.length).map fun p => ((p : Nat) : Int)
noncomputable def decTry (b : List UInt8) (own : List Int) (e : Nat) : Option (List UInt8) := if wrOk b (gL own) own.length e && mdOk b (gL (allL2 b own e)) (allL2 b own e).length then some (mdC b (gL (allL2 b own e)) (allL2 b own e).length) else none
noncomputable def decK (b : List UInt8) (own : List Int) : Nat → Nat → Option (List UInt8)
  | 0, _ => none
  | k + 1, e => if own.length + 2 * e ≤ 8 then (match decTry b own e with
    | some c => some c
    | none => decK b own k (e + 1)) else none
noncomputable def decR (b : List UInt8) (own : List Int) : Option (List UInt8) := decK b own 5 0
/-- In how many of the first k places do they differ? -/
def difN (b c : List UInt8) : Nat → Nat
  | 0 => 0
  | k + 1 => if co b k = co c k then difN b c k else difN b c k + 1
theorem difN_le (b c : List UInt8) : ∀ k, difN b c k ≤ k
  | 0 => Nat.le_refl _
  | k + 1 => by
    have := difN_le b c k
    unfold difN
    split <;> omega
def decB (b : List UInt8) (er : Nat → Int) (n : Nat) : Bool := decide (b.length < 9) || decide (231 < b.length) || !noneTo (outP er b.length) n
noncomputable def decL (b : List UInt8) (er : Nat → Int) (n : Nat) : List UInt8 := if decB b er n then [] else match decR b (ownL er n) with
  | some c => c.take (b.length - 8)
  | none => []
noncomputable def decN (b : List UInt8) (er : Nat → Int) (n : Nat) : Int := if decB b er n then 0 else match decR b (ownL er n) with
  | some c => (difN b c b.length : Nat)
  | none => 0
noncomputable def decE (b : List UInt8) (er : Nat → Int) (n : Nat) : Int := if decB b er n then 2 else match decR b (ownL er n) with
  | some c => 0
  | none => 50
/-! ### what the functions read -/
theorem synE_congr {b : List UInt8} {f g : Nat → Int} : ∀ k, (∀ i, i < k → f i = g i) → synE b f k = synE b g k
  | 0, _ => rfl
  | k + 1, h => by
    show stepS _ (synE b f k) = stepS _ (synE b g k)
    rw [synE_congr k fun i hi => h i (by omega), h k (by omega)]
theorem noneTo_congr {p q : Nat → Bool} : ∀ n, (∀ k, k < n → p k = q k) → noneTo p n = noneTo q n
  | 0, _ => rfl
  | n + 1, h => by
    simp only [noneTo]
    rw [noneTo_congr n fun k hk => h k (by omega), h n (by omega)]
theorem inB_congr {f g : Nat → Int} {n : Nat} (h : ∀ k, k < n → f k = g k) (v : Int) : inB f n v = inB g n v := by
  unfold inB
  rw [noneTo_congr n fun k hk => by rw [h k hk]]
theorem wrongM_congr {b : List UInt8} {f g : Nat → Int} {n : Nat} (h : ∀ k, k < n → f k = g k) (e : Nat) : wrongM b f n e = wrongM b g n e := by
  unfold wrongM
  rw [synE_congr n h]
theorem plL_congr {b : List UInt8} {f g : Nat → Int} {n : Nat} (h : ∀ k, k < n → f k = g k) (e k : Nat) : plL b f n e k = plL b g n e k := by
  have hP : plP b f n e = plP b g n e := by
    funext p
    unfold plP locL
    rw [inB_congr h, wrongM_congr h]
  unfold plL
  rw [hP]
theorem wrOk_congr {b : List UInt8} {f g : Nat → Int} {n : Nat} (h : ∀ k, k < n → f k = g k) (e : Nat) : wrOk b f n e = wrOk b g n e := by
  unfold wrOk wrGood
  rw [wrongM_congr h, plL_congr h]
theorem mendM_congr {b : List UInt8} {f g : Nat → Int} {n : Nat} (h : ∀ k, k < n → f k = g k) : mendM b f n = mendM b g n := by
  funext r c
  unfold mendM
  split
  · split
    · rename_i hc; rw [h c hc]
    · rfl
  · rfl
theorem fixF_congr {b : List UInt8} {f g : Nat → Int} {n : Nat} (h : ∀ k, k < n → f k = g k) : ∀ i, i ≤ n → fixF b f n i = fixF b g n i
  | 0, _ => rfl
  | i + 1, hi => by
    funext k
    unfold fixF
    rw [fixF_congr h i (by omega), h i (by omega), mendM_congr h]
theorem mdC_congr {b : List UInt8} {f g : Nat → Int} {n : Nat} (h : ∀ k, k < n → f k = g k) : mdC b f n = mdC b g n := by
  unfold mdC mdGood
  rw [mendM_congr h, fixF_congr h n (Nat.le_refl n)]
theorem mdOk_congr {b : List UInt8} {f g : Nat → Int} {n : Nat} (h : ∀ k, k < n → f k = g k) : mdOk b f n = mdOk b g n := by
  unfold mdOk mdGood
  rw [mdC_congr h, mendM_congr h, fixF_congr h n (Nat.le_refl n)]
theorem mdOk_len {b : List UInt8} {pl : Nat → Int} {n : Nat} (h : mdOk b pl n = true) : (mdC b pl n).length = b.length := by
  unfold mdOk at h
  rw [Bool.and_eq_true] at h
  rw [eq_of_beq h.2, ofN_len]
/-! ### the erased places -/
theorem sortL_mem {n : Nat} {f : Nat → Int} {v : Int} (h : v ∈ sortL n f) : ∃ j, j < n ∧ v = f j := by
  unfold sortL at h
  rw [List.mem_mergeSort, List.mem_map] at h
  obtain ⟨j, hj, rfl⟩ := h
  exact ⟨j, List.mem_range.1 hj, rfl⟩
theorem ddL_mem {f : Nat → Int} {v : Int} : ∀ {n : Nat}, v ∈ ddL f n → ∃ k, k < n ∧ v = f k
  | 0, h => by cases h
  | n + 1, h => by
    unfold ddL at h
    split at h
    · rcases List.mem_append.1 h with h | h
      · obtain ⟨k, hk, e⟩ := ddL_mem h
        exact ⟨k, by omega, e⟩
      · exact ⟨n, by omega, List.mem_singleton.1 h⟩
    · obtain ⟨k, hk, e⟩ := ddL_mem h
      exact ⟨k, by omega, e⟩
theorem ownL_mem {er : Nat → Int} {n : Nat} {v : Int} (h : v ∈ ownL er n) : ∃ j, j < n ∧ v = er j := by
  obtain ⟨k, hk, e⟩ := ddL_mem h
  unfold sortF at e
  rw [if_pos hk] at e
  have hl := sortL_len n er
  have hm : v ∈ sortL n er := by
    rw [e]
    simp only [List.getD]
    rw [List.getElem?_eq_getElem (by omega)]
    exact List.getElem_mem _
  exact sortL_mem hm
theorem gL_mem {l : List Int} {k : Nat} (h : k < l.length) : gL l k ∈ l := by
  unfold gL
  simp only [List.getD]
  rw [List.getElem?_eq_getElem h]
  exact List.getElem_mem _
theorem decB_false {b : List UInt8} {er : Nat → Int} {n : Nat} (h : decB b er n = false) : 9 ≤ b.length ∧ b.length ≤ 231 ∧ ∀ k, k < n → 0 ≤ er k ∧ er k < b.length := by
  unfold decB at h
  simp only [Bool.or_eq_false_iff, decide_eq_false_iff_not, Bool.not_eq_false'] at h
  refine ⟨by omega, by omega, fun k hk => ?_⟩
  have := noneTo_iff.1 h.2 k hk
  unfold outP at this
  simp only [Bool.or_eq_false_iff, decide_eq_false_iff_not] at this
  omega
theorem allL2_in {b : List UInt8} {own : List Int} {e : Nat} (h : ∀ v ∈ own, 0 ≤ v ∧ v < (b.length : Int)) : ∀ v ∈ allL2 b own e, 0 ≤ v ∧ v < (b.length : Int) := by
  intro v hv
  unfold allL2 at hv
  rcases List.mem_append.1 hv with hv | hv
  · exact h v hv
  · obtain ⟨p, hp, rfl⟩ := List.mem_map.1 hv
    unfold plL at hp
    have := List.mem_range.1 (List.mem_filter.1 hp).1
    omega
theorem allL2_len (b : List UInt8) (own : List Int) (e : Nat) : (allL2 b own e).length = own.length + (plL b (gL own) own.length e b.length).length := by
  unfold allL2
  rw [List.length_append, List.length_map]
theorem allL2_at {b : List UInt8} {own : List Int} {e k : Nat} : gL (allL2 b own e) k = if k < own.length then gL own k else ((plL b (gL own) own.length e b.length).getD (k - own.length) 0 : Nat) := by
  unfold gL allL2
  simp only [List.getD]
  by_cases q : k < own.length
  · rw [if_pos q, List.getElem?_append_left q]
  · rw [if_neg q, List.getElem?_append_right (by omega), List.getElem?_map]
    have : ∀ o : Option Nat, (Option.map (fun p => ((p : Nat) : Int)) o).getD 0 = ((o.getD 0 : Nat) : Int) := fun o => by cases o <;> rfl
    exact this _
def concA (args : List SV) (H : Hp) : List An := [.raw 2, .raw 8, .raw 10, .raw 14, .det 0, .unroll 3 3, .unroll 11 3]
def growA (ty : Nat) (z : SV) (args : List SV) (H : Hp) : List An := match args with
  | [_, .int _ n] => [.joinD 6 (fun fr H => ⟨6, Nat × Nat × Nat, [0], fun y => [.slice 400 y.1 y.2.1 [] 1 0 0 y.2.2 (decide (n ≤ 0))], [], fun y => [⟨400, y.1, y.2.1, 1, 0, fun _ => z, true, false, y.2.2, ty, decide (n ≤ 0), none⟩], fun y => n ≤ y.2.2 ∧ y.2.2 ≤ 9223372036854775807 ∧ (n ≤ 0 → y.2.2 = 0), fun _ => 0⟩) 50]
  | _ => []
noncomputable def EBW : Env := ((((((((EBV.addP 23 mended).addE 22 wrong).addP 17 outC).addE 19 clone).addE 20 sortC).addE 21 compact).inl 49 Tryz.f49 (growA 3 (.int .i64 0))).inl 24 Tryz.f24 concA)
theorem EBW_ok : EnvOk Tryz.prog EBW := (((((((EBV_ok.addP mended_ok).addE wrong_ok).addP out_ok).addE clone_ok).addE sort_ok).addE compact_ok).inl _ Tryz.func49 rfl (by kernel_rfl)).inl _ Tryz.func24 rfl (by kernel_rfl)
noncomputable def decode0 := ecC aMd (fun x => [x.2.1.n ≤ 1000000]) (fun _ (_ : Unit) => True) (fun x _ => .tup [.str (decL x.1 x.2.1.f x.2.1.n), .int .i64 (decN x.1 x.2.1.f x.2.1.n), .int .i64 (decE x.1 x.2.1.f x.2.1.n)]) (fun _ _ => []) 0
noncomputable def decodeA (b : List UInt8) (er : Nat → Int) (n : Nat) : List An :=
  [.lp 8 Nat [9] (fun e => [.int .i64 (e : Nat)]) (fun e => e ≤ 5 ∧ decK b (ownL er n) (5 - e) e = decR b (ownL er n)) (fun e => 5 - e),
   .draw 12 (.take 0 (.take 1 (.take 2 (.br 3 (.br 4 (.br 5 (.take 6 (.take 7 (.take 8 (.take 9 (.take 10 .fin))))) .stop) .stop) .stop)))) [],
   .loopD 16 (fun fr H => ⟨16, Nat, [65, 13], fun i => [.int .i64 (i : Nat), .int .i64 (match slotV fr 12 with | .str c => (difN b c i : Nat) | _ => 0)], [], fun _ => [], fun i => i ≤ b.length, fun i => b.length - i⟩),
   .draw 18 (.take 0 (.take 1 (.take 2 (.take 3 (.take 4 (.take 5 (.take 6 .fin))))))) []]
theorem decode0_ok : EcOk Tryz.prog 7 decode0 := by
  refine ecC_run (fun _ => EBW_ok) Tryz.func7 rfl (by kernel_rfl) [] (fun x => decodeA x.1 x.2.1.f x.2.1.n) (fun _ => Nat.le_of_ble_eq_true rfl) (fun ⟨b, ⟨eb, eo, n, c, z, er⟩, ()⟩ hp hw => ?_)
  have p1 : n ≤ 1000000 := hp.1
  have hz : z = true → n = 0 ∧ c = 0 := (hw _ (List.mem_cons_of_mem _ (List.mem_cons_self ..))).1
  have hn : n ≤ c ∧ c ≤ 9223372036854775807 := (hw _ (List.mem_cons_of_mem _ (List.mem_cons_self ..))).2
  refine vc_of (q :=
      ∀ (b1 : Nat), (b1 = b1 ∧ 0 = 0) ∧ ∀ (v1 : Int), v1 = (↑(List.length b) : Int) → ∀ (v2 : Int), v2 = IntKind.i64.wrap (v1 - (8 : Int)) → ∀ (t1 : Bool), (t1 = if decide (v2 < (1 : Int)) = true then true else decide (v2 > (223 : Int))) → (t1 = false → n ≤ n) ∧ (t1 = false → ∀ (k1 : Nat), k1 < n → true = true) ∧ (t1 = false → eb = eb ∧ eo = eo) ∧ (t1 = false → b1 = b1 ∧ 0 = 0) ∧ ∀ (t2 : Bool), t2 =
      !noneTo (outP er (List.length b)) n → ∀ (t3 : Bool), (t3 = if t1 = true then true else t2) → (t3 = true → ∃ (x1 : Unit), ([] = decL b er n ∧ (0 : Int) = decN b er n ∧ (2 : Int) = decE b er n) ∧ True) ∧ (t3 = false → n ≤ n ∧ (∀ (k2 : Nat), k2 < n → true = true) ∧ (eb = eb ∧ eo = eo) ∧ ∀ (x'1 : Eng.RowD Int × Unit), x'1 = (Eng.RowD.mk eb eo n c z er, ()) → Eng.RowD.n (Prod.fst x'1) * 8 ≤
      140737488355328 ∧ ∀ (y1 : Nat × Nat × Nat), Eng.RowD.n (Prod.fst x'1) ≤ y1.2.2 ∧ y1.2.2 ≤ 9223372036854775807 ∧ (Eng.RowD.z (Prod.fst x'1) = true → y1.2.2 = 0) → (y1.1 = y1.1 ∧ y1.2.1 = y1.2.1) ∧ (0 = 0 ∧ ∀ (k3 : Nat), k3 < Eng.RowD.n (Prod.fst x'1) → true = true) ∧ ∀ (x'2 : Eng.OwnD Int × Unit), x'2 = (Eng.OwnD.mk y1.1 y1.2.1 (Eng.RowD.n (Prod.fst x'1)) y1.2.2 (Eng.RowD.z (Prod.fst x'1))
      (Eng.RowD.n (Prod.fst x'1)) y1.2.2 (Eng.RowD.z (Prod.fst x'1)) (Eng.RowD.f (Prod.fst x'1)), ()) → Eng.OwnD.n (Prod.fst x'2) ≤ Eng.OwnD.m (Prod.fst x'2) ∧ Eng.OwnD.n (Prod.fst x'2) ≤ 1000000 ∧ (Eng.OwnD.z (Prod.fst x'2) = true ∨ Eng.OwnD.ez (Prod.fst x'2) = false) ∧ ∀ (y2 : Unit), True → (Eng.OwnD.b (Prod.fst x'2) = y1.1 ∧ Eng.OwnD.off (Prod.fst x'2) = y1.2.1) ∧ (0 = 0 ∧ ∀ (k4 : Nat), k4 <
      Eng.OwnD.m (Prod.fst x'2) → true = true) ∧ ∀ (x'3 : Eng.OwnD Int × Unit), x'3 = (Eng.OwnD.mk y1.1 y1.2.1 (Eng.RowD.n (Prod.fst x'1)) y1.2.2 (Eng.RowD.z (Prod.fst x'1)) (Eng.OwnD.m (Prod.fst x'2)) (Eng.OwnD.cap (Prod.fst x'2)) (Eng.OwnD.ez (Prod.fst x'2)) (sortF (Eng.OwnD.n (Prod.fst x'2)) (Eng.OwnD.f (Prod.fst x'2))), ()) → Eng.OwnD.n (Prod.fst x'3) ≤ Eng.OwnD.m (Prod.fst x'3) ∧ Eng.OwnD.m
      (Prod.fst x'3) ≤ Eng.OwnD.cap (Prod.fst x'3) ∧ Eng.OwnD.n (Prod.fst x'3) ≤ 1000000 ∧ ∀ (y3 : Nat → Int), (∀ (k : Nat), k < List.length (ddL (Eng.OwnD.f (Prod.fst x'3)) (Eng.OwnD.n (Prod.fst x'3))) → y3 k = List.getD (ddL (Eng.OwnD.f (Prod.fst x'3)) (Eng.OwnD.n (Prod.fst x'3))) k (0 : Int)) → (∃ (x2 : Nat), (0 : Int) = (↑x2 : Int) ∧ x2 ≤ 5 ∧ decK b (ownL er n) (5 - x2) x2 = decR b (ownL er n)) ∧ ∀
      (b2 : Nat), b2 ≤ 5 ∧ decK b (ownL er n) (5 - b2) b2 = decR b (ownL er n) → ∀ (v3 : Int), v3 = (↑(List.length (ddL (Eng.OwnD.f (Prod.fst x'3)) (Eng.OwnD.n (Prod.fst x'3)))) : Int) → ∀ (v4 : Int), v4 = IntKind.i64.wrap ((2 : Int) * (↑b2 : Int)) → ∀ (v5 : Int), v5 = IntKind.i64.wrap (v3 + v4) → (decide (v5 ≤ (8 : Int)) = true → (b1 = b1 ∧ 0 = 0) ∧ List.length (ddL (Eng.OwnD.f (Prod.fst x'3))
      (Eng.OwnD.n (Prod.fst x'3))) ≤ Eng.OwnD.m (Prod.fst x'3) ∧ (∀ (k5 : Nat), k5 < List.length (ddL (Eng.OwnD.f (Prod.fst x'3)) (Eng.OwnD.n (Prod.fst x'3))) → true = true) ∧ (Eng.OwnD.b (Prod.fst x'3) = Eng.OwnD.b (Prod.fst x'3) ∧ Eng.OwnD.off (Prod.fst x'3) = Eng.OwnD.off (Prod.fst x'3)) ∧ ∀ (x'4 : List UInt8 × Eng.RowD Int × Int × Unit), x'4 = (b, Eng.RowD.mk (Eng.OwnD.b (Prod.fst x'3)) (Eng.OwnD.off
      (Prod.fst x'3)) (List.length (ddL (Eng.OwnD.f (Prod.fst x'3)) (Eng.OwnD.n (Prod.fst x'3)))) (Eng.OwnD.c (Prod.fst x'3)) (Eng.OwnD.z (Prod.fst x'3)) y3, (↑b2 : Int), ()) → 9 ≤ List.length (Prod.fst x'4) ∧ List.length (Prod.fst x'4) ≤ 231 ∧ (0 : Int) ≤ ((Prod.snd x'4).2.1) ∧ (↑(Eng.RowD.n ((Prod.snd x'4).1)) : Int) + (2 : Int) * ((Prod.snd x'4).2.1) ≤ (8 : Int) ∧ (∀ (k6 : Nat), k6 < Eng.RowD.n
      ((Prod.snd x'4).1) → (0 : Int) ≤ Eng.RowD.f ((Prod.snd x'4).1) k6 ∧ Eng.RowD.f ((Prod.snd x'4).1) k6 < (↑(List.length (Prod.fst x'4)) : Int)) ∧ ∀ (y4 : Nat × Nat × Nat), wrLen (Prod.fst x'4) (Eng.RowD.f ((Prod.snd x'4).1)) (Eng.RowD.n ((Prod.snd x'4).1)) (Int.toNat (((Prod.snd x'4).2.1))) ≤ y4.2.2 ∧ y4.2.2 ≤ 9223372036854775807 ∧ (wrLen (Prod.fst x'4) (Eng.RowD.f ((Prod.snd x'4).1)) (Eng.RowD.n
      ((Prod.snd x'4).1)) (Int.toNat (((Prod.snd x'4).2.1))) = 0 → y4.2.2 = 0) → ∀ (t4 : Bool), t4 = wrOk (Prod.fst x'4) (Eng.RowD.f ((Prod.snd x'4).1)) (Eng.RowD.n ((Prod.snd x'4).1)) (Int.toNat (((Prod.snd x'4).2.1))) → ((!t4) = true → ∀ (v6 : Int), v6 = IntKind.i64.wrap ((↑b2 : Int) + (1 : Int)) → ∃ (x3 : Nat), v6 = (↑x3 : Int) ∧ (x3 ≤ 5 ∧ decK b (ownL er n) (5 - x3) x3 = decR b (ownL er n)) ∧ 5 - x3
      < 5 - b2) ∧ ((!t4) = false → (b1 = b1 ∧ 0 = 0) ∧ (∀ (b3 : Nat), ((0 : Int) ≤ (0 : Int) ∧ (0 : Int) < (↑(2 : Nat) : Int) ∧ (b3 = b3 ∧ 0 = 0) ∧ 0 < 2 ∧ ∀ (v7 : Int), v7 = (↑(List.length (ddL (Eng.OwnD.f (Prod.fst x'3)) (Eng.OwnD.n (Prod.fst x'3)))) : Int) → ∀ (v8 : Int), v8 = IntKind.i64.wrap ((0 : Int) + v7) → (decide (v8 < (0 : Int)) = true → False) ∧ (decide (v8 < (0 : Int)) = false → (0 : Int) ≤
      IntKind.i64.wrap ((0 : Int) + (1 : Int)) ∧ IntKind.i64.wrap ((0 : Int) + (1 : Int)) < (↑(2 : Nat) : Int) ∧ (b3 = b3 ∧ 0 = 0) ∧ 1 < 2 ∧ ∀ (v9 : Int), v9 = (↑(wrLen (Prod.fst x'4) (Eng.RowD.f ((Prod.snd x'4).1)) (Eng.RowD.n ((Prod.snd x'4).1)) (Int.toNat (((Prod.snd x'4).2.1)))) : Int) → ∀ (v10 : Int), v10 = IntKind.i64.wrap (v8 + v9) → (decide (v10 < (0 : Int)) = true → False) ∧ (decide (v10 < (0 :
      Int)) = false → (decide (v10 < (0 : Int)) = true → False) ∧ (decide (v10 < (0 : Int)) = false → (∀ (v11 : Int), v11 = (↑(0 : Nat) : Int) → ∀ (v12 : Int), v12 = (↑(0 : Nat) : Int) → ∀ (v13 : Int), v13 = IntKind.i64.wrap (v11 - v12) → ∀ (v14 : Int), v14 = IntKind.i64.wrap (v10 - v13) → (decide (v14 > (0 : Int)) = true → ∀ (v15 : Int), v15 = (↑(0 : Nat) : Int) → 0 ≤ v15 ∧ v15 ≤ (↑(0 : Nat) : Int) ∧
      true = true ∧ Int.toNat v14 * 8 ≤ 140737488355328 ∧ Int.toNat v14 ≤ 9223372036854775807 ∧ 0 ≤ v14 ∧ v14 ≤ 9223372036854775807 ∧ ∀ (b4 b5 : Nat), Int.toNat v14 ≤ b5 → b5 ≤ 9223372036854775807 → (Int.toNat v14 = 0 → b5 = 0) → ∀ (v16 : Int), v16 = (↑(0 : Nat) : Int) → 0 ≤ v16 ∧ v16 ≤ (↑b5 : Int) ∧ ∃ (x3 : Nat × Nat × Nat), (b4 = x3.1 ∧ 0 = x3.2.1 ∧ 0 = 0 ∧ Int.toNat v16 = 0 ∧ b5 = x3.2.2 ∧ decide
      (Int.toNat v14 = 0) = decide (v10 ≤ (0 : Int))) ∧ ((b4 = x3.1 ∧ 0 = x3.2.1 ∧ decide (Int.toNat v14 = 0) = decide (v10 ≤ (0 : Int)) ∧ 0 ≤ Int.toNat v14 ∧ 0 ≤ x3.2.2 ∧ x3.2.2 ≤ b5) ∧ ∀ (i1 : Nat), i1 < 0 → (0 : Int) = (0 : Int)) ∧ v10 ≤ (↑x3.2.2 : Int) ∧ x3.2.2 ≤ 9223372036854775807 ∧ (v10 ≤ (0 : Int) → x3.2.2 = 0)) ∧ (decide (v14 > (0 : Int)) = false → ∃ (x3 : Nat × Nat × Nat), SVeq (SV.slice 999999
      0 0 [] 0 0 0 0 true) (SV.slice 400 x3.1 x3.2.1 [] 1 0 0 x3.2.2 (decide (v10 ≤ (0 : Int)))) ∧ (decide (v10 ≤ (0 : Int)) = true ∧ 0 = 0 ∧ x3.2.2 = 0) ∧ v10 ≤ (↑x3.2.2 : Int) ∧ x3.2.2 ≤ 9223372036854775807 ∧ (v10 ≤ (0 : Int) → x3.2.2 = 0))) ∧ ∀ (x3 : Nat × Nat × Nat), v10 ≤ (↑x3.2.2 : Int) ∧ x3.2.2 ≤ 9223372036854775807 ∧ (v10 ≤ (0 : Int) → x3.2.2 = 0) → (0 : Int) ≤ (0 : Int) ∧ (0 : Int) < (↑(2 : Nat)
      : Int) ∧ (b3 = b3 ∧ 0 = 0) ∧ 0 < 2 ∧ (x3.1 = x3.1 ∧ x3.2.1 = x3.2.1) ∧ (decide (v10 ≤ (0 : Int)) = true → decide (v10 ≤ (0 : Int)) = true) ∧ 0 = 0 ∧ 0 ≤ 0 ∧ x3.2.2 ≤ x3.2.2 ∧ (0 + List.length (ddL (Eng.OwnD.f (Prod.fst x'3)) (Eng.OwnD.n (Prod.fst x'3)))) * 8 ≤ 140737488355328 ∧ 0 + List.length (ddL (Eng.OwnD.f (Prod.fst x'3)) (Eng.OwnD.n (Prod.fst x'3))) ≤ 9223372036854775807 ∧ List.length (ddL
      (Eng.OwnD.f (Prod.fst x'3)) (Eng.OwnD.n (Prod.fst x'3))) ≤ Eng.OwnD.m (Prod.fst x'3) ∧ (Eng.OwnD.b (Prod.fst x'3) = Eng.OwnD.b (Prod.fst x'3) ∧ Eng.OwnD.off (Prod.fst x'3) = Eng.OwnD.off (Prod.fst x'3)) ∧ ∀ (b4 b5 b6 : Nat), 0 + List.length (ddL (Eng.OwnD.f (Prod.fst x'3)) (Eng.OwnD.n (Prod.fst x'3))) ≤ b6 → b6 ≤ 9223372036854775807 → (decide (v10 ≤ (0 : Int)) = true → List.length (ddL (Eng.OwnD.f
      (Prod.fst x'3)) (Eng.OwnD.n (Prod.fst x'3))) = 0 → b6 = 0) → (0 : Int) ≤ IntKind.i64.wrap ((0 : Int) + (1 : Int)) ∧ IntKind.i64.wrap ((0 : Int) + (1 : Int)) < (↑(2 : Nat) : Int) ∧ (b3 = b3 ∧ 0 = 0) ∧ 1 < 2 ∧ (b4 = b4 ∧ b5 = b5) ∧ ((decide (v10 ≤ (0 : Int)) && decide (List.length (ddL (Eng.OwnD.f (Prod.fst x'3)) (Eng.OwnD.n (Prod.fst x'3))) = 0)) = true → (decide (v10 ≤ (0 : Int)) && decide
      (List.length (ddL (Eng.OwnD.f (Prod.fst x'3)) (Eng.OwnD.n (Prod.fst x'3))) = 0)) = true) ∧ 0 = 0 ∧ 0 + List.length (ddL (Eng.OwnD.f (Prod.fst x'3)) (Eng.OwnD.n (Prod.fst x'3))) ≤ 0 + List.length (ddL (Eng.OwnD.f (Prod.fst x'3)) (Eng.OwnD.n (Prod.fst x'3))) ∧ b6 ≤ b6 ∧ (0 + List.length (ddL (Eng.OwnD.f (Prod.fst x'3)) (Eng.OwnD.n (Prod.fst x'3))) + wrLen (Prod.fst x'4) (Eng.RowD.f ((Prod.snd
      x'4).1)) (Eng.RowD.n ((Prod.snd x'4).1)) (Int.toNat (((Prod.snd x'4).2.1)))) * 8 ≤ 140737488355328 ∧ 0 + List.length (ddL (Eng.OwnD.f (Prod.fst x'3)) (Eng.OwnD.n (Prod.fst x'3))) + wrLen (Prod.fst x'4) (Eng.RowD.f ((Prod.snd x'4).1)) (Eng.RowD.n ((Prod.snd x'4).1)) (Int.toNat (((Prod.snd x'4).2.1))) ≤ 9223372036854775807 ∧ wrLen (Prod.fst x'4) (Eng.RowD.f ((Prod.snd x'4).1)) (Eng.RowD.n ((Prod.snd
      x'4).1)) (Int.toNat (((Prod.snd x'4).2.1))) ≤ wrLen (Prod.fst x'4) (Eng.RowD.f ((Prod.snd x'4).1)) (Eng.RowD.n ((Prod.snd x'4).1)) (Int.toNat (((Prod.snd x'4).2.1))) ∧ (y4.1 = y4.1 ∧ y4.2.1 = y4.2.1) ∧ ∀ (b7 b8 b9 : Nat), 0 + List.length (ddL (Eng.OwnD.f (Prod.fst x'3)) (Eng.OwnD.n (Prod.fst x'3))) + wrLen (Prod.fst x'4) (Eng.RowD.f ((Prod.snd x'4).1)) (Eng.RowD.n ((Prod.snd x'4).1)) (Int.toNat
      (((Prod.snd x'4).2.1))) ≤ b9 → b9 ≤ 9223372036854775807 → ((decide (v10 ≤ (0 : Int)) && decide (List.length (ddL (Eng.OwnD.f (Prod.fst x'3)) (Eng.OwnD.n (Prod.fst x'3))) = 0)) = true → wrLen (Prod.fst x'4) (Eng.RowD.f ((Prod.snd x'4).1)) (Eng.RowD.n ((Prod.snd x'4).1)) (Int.toNat (((Prod.snd x'4).2.1))) = 0 → b9 = 0) → (0 + List.length (ddL (Eng.OwnD.f (Prod.fst x'3)) (Eng.OwnD.n (Prod.fst x'3))) +
      wrLen (Prod.fst x'4) (Eng.RowD.f ((Prod.snd x'4).1)) (Eng.RowD.n ((Prod.snd x'4).1)) (Int.toNat (((Prod.snd x'4).2.1))) ≤ 0 + List.length (ddL (Eng.OwnD.f (Prod.fst x'3)) (Eng.OwnD.n (Prod.fst x'3))) + wrLen (Prod.fst x'4) (Eng.RowD.f ((Prod.snd x'4).1)) (Eng.RowD.n ((Prod.snd x'4).1)) (Int.toNat (((Prod.snd x'4).2.1))) ∧ (∀ (k7 : Nat), k7 < 0 + List.length (ddL (Eng.OwnD.f (Prod.fst x'3))
      (Eng.OwnD.n (Prod.fst x'3))) + wrLen (Prod.fst x'4) (Eng.RowD.f ((Prod.snd x'4).1)) (Eng.RowD.n ((Prod.snd x'4).1)) (Int.toNat (((Prod.snd x'4).2.1))) → true = true) ∧ (b7 = b7 ∧ b8 = b8) ∧ 9 ≤ List.length b ∧ List.length b ≤ 231 ∧ 0 + List.length (ddL (Eng.OwnD.f (Prod.fst x'3)) (Eng.OwnD.n (Prod.fst x'3))) + wrLen (Prod.fst x'4) (Eng.RowD.f ((Prod.snd x'4).1)) (Eng.RowD.n ((Prod.snd x'4).1))
      (Int.toNat (((Prod.snd x'4).2.1))) ≤ 8 ∧ (∀ (k8 : Nat), k8 < 0 + List.length (ddL (Eng.OwnD.f (Prod.fst x'3)) (Eng.OwnD.n (Prod.fst x'3))) + wrLen (Prod.fst x'4) (Eng.RowD.f ((Prod.snd x'4).1)) (Eng.RowD.n ((Prod.snd x'4).1)) (Int.toNat (((Prod.snd x'4).2.1))) → ((0 : Int) ≤ if k8 < 0 + List.length (ddL (Eng.OwnD.f (Prod.fst x'3)) (Eng.OwnD.n (Prod.fst x'3))) then if k8 < 0 then (0 : Int) else y3
      (k8 - 0) else (↑(List.getD (plL (Prod.fst x'4) (Eng.RowD.f ((Prod.snd x'4).1)) (Eng.RowD.n ((Prod.snd x'4).1)) (Int.toNat (((Prod.snd x'4).2.1))) (List.length (Prod.fst x'4))) (k8 - (0 + List.length (ddL (Eng.OwnD.f (Prod.fst x'3)) (Eng.OwnD.n (Prod.fst x'3))))) 0) : Int)) ∧ (if k8 < 0 + List.length (ddL (Eng.OwnD.f (Prod.fst x'3)) (Eng.OwnD.n (Prod.fst x'3))) then if k8 < 0 then (0 : Int) else y3
      (k8 - 0) else (↑(List.getD (plL (Prod.fst x'4) (Eng.RowD.f ((Prod.snd x'4).1)) (Eng.RowD.n ((Prod.snd x'4).1)) (Int.toNat (((Prod.snd x'4).2.1))) (List.length (Prod.fst x'4))) (k8 - (0 + List.length (ddL (Eng.OwnD.f (Prod.fst x'3)) (Eng.OwnD.n (Prod.fst x'3))))) 0) : Int)) < (↑(List.length b) : Int)) ∧ ∀ (s1 : List UInt8), s1 = mdC b (fun (k : Nat) ↦ if k < 0 + List.length (ddL (Eng.OwnD.f
      (Prod.fst x'3)) (Eng.OwnD.n (Prod.fst x'3))) then if k < 0 then (0 : Int) else y3 (k - 0) else (↑(List.getD (plL (Prod.fst x'4) (Eng.RowD.f ((Prod.snd x'4).1)) (Eng.RowD.n ((Prod.snd x'4).1)) (Int.toNat (((Prod.snd x'4).2.1))) (List.length (Prod.fst x'4))) (k - (0 + List.length (ddL (Eng.OwnD.f (Prod.fst x'3)) (Eng.OwnD.n (Prod.fst x'3))))) 0) : Int)) (0 + List.length (ddL (Eng.OwnD.f (Prod.fst
      x'3)) (Eng.OwnD.n (Prod.fst x'3))) + wrLen (Prod.fst x'4) (Eng.RowD.f ((Prod.snd x'4).1)) (Eng.RowD.n ((Prod.snd x'4).1)) (Int.toNat (((Prod.snd x'4).2.1)))) → ∀ (t5 : Bool), t5 = mdOk b (fun (k : Nat) ↦ if k < 0 + List.length (ddL (Eng.OwnD.f (Prod.fst x'3)) (Eng.OwnD.n (Prod.fst x'3))) then if k < 0 then (0 : Int) else y3 (k - 0) else (↑(List.getD (plL (Prod.fst x'4) (Eng.RowD.f ((Prod.snd
      x'4).1)) (Eng.RowD.n ((Prod.snd x'4).1)) (Int.toNat (((Prod.snd x'4).2.1))) (List.length (Prod.fst x'4))) (k - (0 + List.length (ddL (Eng.OwnD.f (Prod.fst x'3)) (Eng.OwnD.n (Prod.fst x'3))))) 0) : Int)) (0 + List.length (ddL (Eng.OwnD.f (Prod.fst x'3)) (Eng.OwnD.n (Prod.fst x'3))) + wrLen (Prod.fst x'4) (Eng.RowD.f ((Prod.snd x'4).1)) (Eng.RowD.n ((Prod.snd x'4).1)) (Int.toNat (((Prod.snd
      x'4).2.1)))) → ((!t5) = true → ∀ (v12 : Int), v12 = IntKind.i64.wrap ((↑b2 : Int) + (1 : Int)) → ∃ (x4 : Nat), v12 = (↑x4 : Int) ∧ (x4 ≤ 5 ∧ decK b (ownL er n) (5 - x4) x4 = decR b (ownL er n)) ∧ 5 - x4 < 5 - b2) ∧ ((!t5) = false → (b1 = b1 ∧ 0 = 0) ∧ ∀ (v13 : Int), v13 = (↑(List.length b) : Int) → (∃ (x4 : Nat), (0 : Int) = (↑x4 : Int) ∧ (0 : Int) = (↑(difN b s1 x4) : Int) ∧ Nat.le x4 (List.length
      b)) ∧ ∀ (b10 : Nat), b10 ≤ List.length b → (decide ((↑b10 : Int) < v13) = true → (b1 = b1 ∧ 0 = 0) ∧ (0 : Int) ≤ (↑b10 : Int) ∧ (↑b10 : Int) < (↑(List.length b) : Int) ∧ (0 : Int) ≤ (↑b10 : Int) ∧ (↑b10 : Int) < (↑(List.length s1) : Int) ∧ (((↑(UInt8.toNat (List.getD b b10 0)) : Int) != (↑(UInt8.toNat (List.getD s1 b10 0)) : Int)) = true → ∀ (v14 : Int), v14 = IntKind.i64.wrap ((↑(difN b s1 b10) :
      Int) + (1 : Int)) → ∀ (v15 : Int), v15 = IntKind.i64.wrap ((↑b10 : Int) + (1 : Int)) → ∃ (x5 : Nat), v15 = (↑x5 : Int) ∧ v14 = (↑(difN b s1 x5) : Int) ∧ x5 ≤ List.length b ∧ List.length b - x5 < List.length b - b10) ∧ (((↑(UInt8.toNat (List.getD b b10 0)) : Int) != (↑(UInt8.toNat (List.getD s1 b10 0)) : Int)) = false → ∀ (v15 : Int), v15 = IntKind.i64.wrap ((↑b10 : Int) + (1 : Int)) → ∃ (x5 : Nat),
      v15 = (↑x5 : Int) ∧ (↑(difN b s1 b10) : Int) = (↑(difN b s1 x5) : Int) ∧ x5 ≤ List.length b ∧ List.length b - x5 < List.length b - b10)) ∧ (decide ((↑b10 : Int) < v13) = false → 0 ≤ v2 ∧ v2 ≤ (↑(List.length s1) : Int) ∧ (0 : Int) ≤ (0 : Int) ∧ 0 ≤ v2 ∧ ∃ (x5 : Unit), (List.drop (Int.toNat (0 : Int)) (List.take (Int.toNat v2) s1) = decL b er n ∧ (↑(difN b s1 b10) : Int) = decN b er n ∧ (0 : Int) =
      decE b er n) ∧ True))) ∧ True)))) ∧ True) ∧ True)) ∧ (decide (v5 ≤ (8 : Int)) = false → ∃ (x3 : Unit), ([] = decL b er n ∧ (0 : Int) = decN b er n ∧ (50 : Int) = decE b er n) ∧ True))) (by kernel_rfl) ?_
  try simp only [eq_self, true_and, and_true, Nat.le_refl, implies_true, forall_const, Bool.false_eq_true, Bool.true_eq_false, reduceCtorEq, false_imp_iff, true_imp_iff, Int.toNat_zero, Int.toNat_natCast, Nat.zero_lt_one, Int.le_refl, allGet]
  intro v1 hv1 v2 hv2 t1 ht1 t2 ht2 t3 ht3
  have hlb : b.length ≤ 9223372036854775807 := hw _ (List.mem_cons_self ..)
  have e2 : v2 = (b.length : Int) - 8 := by rw [hv2, hv1, w64_id (by omega) (by omega)]
  have hb : t3 = decB b er n := by
    rw [ht3, ht2, ht1, e2]
    unfold decB
    by_cases q1 : b.length < 9
    · rw [decide_eq_true q1, if_pos (decide_eq_true (show (b.length : Int) - 8 < 1 by omega))]
      rfl
    · rw [decide_eq_false q1, if_neg (show ¬ decide ((b.length : Int) - 8 < 1) = true by rw [decide_eq_true_eq]; omega)]
      by_cases q2 : 231 < b.length
      · rw [decide_eq_true q2, decide_eq_true (show (b.length : Int) - 8 > 223 by omega)]
        rfl
      · rw [decide_eq_false q2, decide_eq_false (show ¬ (b.length : Int) - 8 > 223 by omega)]
        cases noneTo (outP er b.length) n <;> rfl
  subst hb
  refine ⟨fun h => ⟨(), ?_⟩, fun h => ?_⟩
  · unfold decL decN decE
    rw [h]
    exact ⟨rfl, rfl, rfl⟩
  obtain ⟨b1, b2, b3⟩ := decB_false h
  intro x1 hx1
  subst hx1
  dsimp only
  refine ⟨by omega, fun y1 hy1 x2 hx2 => ?_⟩
  obtain ⟨y11, y12, y13⟩ := hy1
  subst hx2
  dsimp only
  refine ⟨Nat.le_refl _, p1, ?_, ⟨rfl, rfl⟩, fun x3 hx3 => ?_⟩
  · cases z with
    | true => exact .inl rfl
    | false => exact .inr rfl
  subst hx3
  dsimp only
  have hO : ddL (sortF n er) n = ownL er n := rfl
  simp only [hO]
  have hin : ∀ v ∈ ownL er n, 0 ≤ v ∧ v < (b.length : Int) := fun v hv => by
    obtain ⟨j, hj, rfl⟩ := ownL_mem hv
    exact b3 j hj
  have hOl : (ownL er n).length ≤ n := ddL_le _ _
  have hdL : decL b er n = match decR b (ownL er n) with | some c => c.take (b.length - 8) | none => [] := by unfold decL; rw [h]; rfl
  have hdN : decN b er n = match decR b (ownL er n) with | some c => ((difN b c b.length : Nat) : Int) | none => 0 := by unfold decN; rw [h]; rfl
  have hdE : decE b er n = match decR b (ownL er n) with | some c => 0 | none => 50 := by unfold decE; rw [h]; rfl
  obtain ⟨O, hOe⟩ : ∃ O, ownL er n = O := ⟨_, rfl⟩
  simp only [hOe] at hin hOl hdL hdN hdE ⊢
  refine ⟨Nat.le_refl _, y11, p1, fun y3 hy3 => ⟨⟨0, rfl, by omega, rfl⟩, fun e he v3 hv3 v4 hv4 v5 hv5 => ?_⟩⟩
  obtain ⟨he5, hdec⟩ := he
  have hy3 : ∀ k, k < O.length → y3 k = gL O k := hy3
  have e4 : v4 = 2 * (e : Int) := by rw [hv4, w64_id (by omega) (by omega)]
  have e5 : v5 = (O.length : Int) + 2 * e := by rw [hv5, hv3, e4, w64_id (by omega) (by omega)]
  subst hv3
  refine ⟨fun hle => ?_, fun hle => ⟨(), ?_⟩⟩
  · have hle : O.length + 2 * e ≤ 8 := by have := of_decide_eq_true hle; omega
    have hdec2 : decR b O = match decTry b O e with | some c => some c | none => decK b O (5 - (e + 1)) (e + 1) := by
      rw [← hdec, show 5 - e = (5 - (e + 1)) + 1 by omega]
      show (if O.length + 2 * e ≤ 8 then _ else none) = _
      rw [if_pos hle]
    refine ⟨hOl, fun x4 hx4 => ?_⟩
    subst hx4
    dsimp only
    simp only [Int.toNat_natCast]
    refine ⟨b1, b2, by omega, by omega, fun k hk => ?_, fun y4 hy4 t4 ht4 => ?_⟩
    · rw [hy3 k hk]
      exact hin _ (gL_mem hk)
    rw [wrOk_congr hy3] at ht4
    have hpl := fun k => plL_congr (b := b) hy3 e k
    have hwl : wrLen b y3 O.length e = if wrGood b (gL O) O.length e then (plL b (gL O) O.length e b.length).length else 0 := by
      unfold wrLen wrGood
      rw [wrongM_congr hy3, hpl]
    subst ht4
    refine ⟨fun hk v6 hv6 => ⟨e + 1, hv6.trans (l_succ (by omega)), ⟨by omega, ?_⟩, by omega⟩, fun hk => ?_⟩
    · have hk : wrOk b (gL O) O.length e = false := by simpa using hk
      have ht : decTry b O e = none := by unfold decTry; rw [hk]; rfl
      rw [hdec2, ht]
    · have hk : wrOk b (gL O) O.length e = true := by simpa using hk
      have hk' := hk
      unfold wrOk at hk'
      rw [Bool.and_eq_true] at hk'
      have hple : (plL b (gL O) O.length e b.length).length = e := of_decide_eq_true hk'.2
      rw [hwl, hk'.1, if_pos rfl, hple] at hy4
      simp only [hwl, hk'.1, if_pos rfl, hple]
      simp only [if_true, Nat.zero_add, Nat.sub_zero, if_neg (Nat.not_lt_zero _)]
      refine ⟨by omega, by omega, fun v7 hv7 v8 hv8 => ?_⟩
      have e8 : v8 = (O.length : Int) := by rw [hv8, hv7, w64_id (by omega) (by omega)]; omega
      subst e8
      refine ⟨fun q => by have := of_decide_eq_true q; omega, fun _ => ⟨by decide, by decide, by omega, fun v9 hv9 v10 hv10 => ?_⟩⟩
      have e10 : v10 = ((O.length + e : Nat) : Int) := by rw [hv10, hv9, w64_id (by omega) (by omega)]; omega
      subst e10
      refine ⟨fun q => by have := of_decide_eq_true q; omega, fun _ => ⟨fun q => by have := of_decide_eq_true q; omega, fun _ => ⟨fun v11 hv11 v12 hv12 v13 hv13 v14 hv14 => ?_, fun x3 hx3 => ?_⟩⟩⟩
      · have e13 : v13 = 0 := by rw [hv13, hv11, hv12]; decide
        have e14 : v14 = ((O.length + e : Nat) : Int) := by rw [hv14, e13, w64_id (by omega) (by omega)]; omega
        subst e14
        refine ⟨fun hgt v15 hv15 => ?_, fun hgt => ?_⟩
        · have hgt : 0 < O.length + e := by have := of_decide_eq_true hgt; omega
          have h15 : v15 = 0 := hv15
          subst h15
          refine ⟨Int.le_refl _, Int.le_refl _, by omega, by omega, by omega, by omega, fun c1 c2 h1 h2 _ v16 hv16 => ?_⟩
          have h16 : v16 = 0 := hv16
          subst h16
          have hd1 : decide (((O.length + e : Nat) : Int).toNat = 0) = decide (((O.length + e : Nat) : Int) ≤ 0) := by
            rw [decide_eq_false (show ¬ ((O.length + e : Nat) : Int).toNat = 0 by omega), decide_eq_false (show ¬ ((O.length + e : Nat) : Int) ≤ 0 by omega)]
          refine ⟨Int.le_refl _, by omega, ⟨(c1, 0, c2), ⟨rfl, rfl, rfl, rfl, hd1⟩, ⟨rfl, rfl, hd1, by omega, Nat.zero_le _, Nat.le_refl _⟩, by dsimp only; omega, h2, fun q => by omega⟩⟩
        · have hgt : O.length + e = 0 := by have := of_decide_eq_false hgt; omega
          exact ⟨(0, 0, 0), nil_eqv (decide_eq_true (by omega)) rfl rfl, ⟨decide_eq_true (by omega), rfl⟩, by dsimp only; omega, by dsimp only; omega, fun _ => rfl⟩
      · obtain ⟨g1, g2, g3⟩ := hx3
        refine ⟨by omega, by omega, fun q => q, by omega, by omega, hOl, fun b6 h6 h7 _ => ⟨by decide, by decide, by omega, fun q => q, by omega, by omega, fun b9 h9 h10 _ => ?_⟩⟩
        have hal := allL2_len b O e
        rw [hple] at hal
        have hallin := allL2_in (e := e) hin
        have hpt : ∀ k, k < O.length + e → (if k < O.length then y3 k else (((plL b y3 O.length e b.length).getD (k - O.length) 0 : Nat) : Int)) = gL (allL2 b O e) k := fun k hk => by
          rw [allL2_at, hpl]
          by_cases q : k < O.length
          · rw [if_pos q, if_pos q, hy3 k q]
          · rw [if_neg q, if_neg q]
        refine ⟨b1, b2, by omega, fun k hk => ?_, fun s1 hs1 t5 ht5 => ?_⟩
        · rw [hpt k hk]
          exact hallin _ (gL_mem (by omega))
        rw [mdC_congr hpt] at hs1
        rw [mdOk_congr hpt] at ht5
        rw [← hal] at hs1 ht5
        subst ht5
        refine ⟨fun hm v12 hv12 => ⟨e + 1, hv12.trans (l_succ (by omega)), ⟨by omega, ?_⟩, by omega⟩, fun hm v13 hv13 => ?_⟩
        · have hm : mdOk b (gL (allL2 b O e)) (allL2 b O e).length = false := by simpa using hm
          have ht : decTry b O e = none := by unfold decTry; rw [hk, hm]; rfl
          rw [hdec2, ht]
        · have hm : mdOk b (gL (allL2 b O e)) (allL2 b O e).length = true := by simpa using hm
          have hs1l : s1.length = b.length := by rw [hs1]; exact mdOk_len hm
          have ht : decTry b O e = some s1 := by unfold decTry; rw [hk, hm, hs1]; rfl
          have hR : decR b O = some s1 := by rw [hdec2, ht]
          subst hv13
          refine ⟨⟨0, rfl, rfl, Nat.zero_le _⟩, fun i hi => ⟨fun hil => ?_, fun hil => ?_⟩⟩
          · have hil : i < b.length := by have := of_decide_eq_true hil; omega
            have hdl : difN b s1 i ≤ i := difN_le b s1 i
            refine ⟨by omega, by omega, by omega, by omega, fun hne v14 hv14 v15 hv15 => ⟨i + 1, hv15.trans (l_succ (by omega)), ?_, by omega, by omega⟩, fun heq v15 hv15 => ⟨i + 1, hv15.trans (l_succ (by omega)), ?_, by omega, by omega⟩⟩
            · have hne : ¬ co b i = co s1 i := by
                intro q
                have q : ((b.getD i 0).toNat : Int) = ((s1.getD i 0).toNat : Int) := congrArg Nat.cast q
                have q2 : (((b.getD i 0).toNat : Int) != ((s1.getD i 0).toNat : Int)) = false := by rw [q]; exact bne_self_eq_false _
                have hne2 : (((b.getD i 0).toNat : Int) != ((s1.getD i 0).toNat : Int)) = true := hne
                rw [q2] at hne2
                cases hne2
              rw [hv14, difN, if_neg hne]
              exact l_succ (by omega)
            · have heq : co b i = co s1 i := by
                have q : ((b.getD i 0).toNat : Int) = ((s1.getD i 0).toNat : Int) := by simpa using heq
                have : (b.getD i 0).toNat = (s1.getD i 0).toNat := by omega
                exact this
              rw [difN, if_pos heq]
          · have hil : i = b.length := by have := of_decide_eq_false hil; omega
            refine ⟨by omega, by omega, by omega, (), ?_⟩
            rw [hdL, hdN, hdE, hR, e2, hil]
            refine ⟨?_, rfl, rfl⟩
            show List.drop 0 (List.take ((b.length : Int) - 8).toNat s1) = s1.take (b.length - 8)
            rw [show ((b.length : Int) - 8).toNat = b.length - 8 by omega]
            rfl
  · have hle : ¬ O.length + 2 * e ≤ 8 := by have := of_decide_eq_false hle; omega
    have : decR b O = none := by
      rw [← hdec]
      cases hk : 5 - e with
      | zero => rfl
      | succ k =>
        show (if O.length + 2 * e ≤ 8 then _ else none) = _
        rw [if_neg hle]
    rw [hdL, hdN, hdE, this]
    exact ⟨rfl, rfl, rfl⟩
theorem decL_len (b : List UInt8) (er : Nat → Int) (n : Nat) : (decL b er n).length ≤ 223 := by
  unfold decL
  split
  · exact Nat.zero_le _
  · rename_i h
    obtain ⟨h1, h2, _⟩ := decB_false (b := b) (er := er) (n := n) (by simpa using h)
    split
    · rw [List.length_take]
      have := Nat.min_le_left (b.length - 8) (List.length ‹_›)
      omega
    · exact Nat.zero_le _
noncomputable def decode := pcOf aMd (fun x => [x.2.1.n ≤ 1000000]) (fun x => .tup [.str (decL x.1 x.2.1.f x.2.1.n), .int .i64 (decN x.1 x.2.1.f x.2.1.n), .int .i64 (decE x.1 x.2.1.f x.2.1.n)])
theorem decode_ok : PcOk Tryz.prog 7 decode := pc_of_ec decode0_ok (by intro args H; rcases args with _ | ⟨_, _ | ⟨_, _ | ⟨_, _⟩⟩⟩ <;> rfl) (fun x _ => ⟨Nat.le_trans (decL_len _ _ _) (by omega), trivial, trivial, trivial⟩)
end Galois
