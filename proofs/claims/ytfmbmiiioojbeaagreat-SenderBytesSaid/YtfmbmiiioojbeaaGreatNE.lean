/-
  OWN WORK. The reference's Put of a unit with a list of gaps out of an argument (where the list is empty its address may be any).
-/
import Derived.Test.YtfmbmiiioojbeaaGreatN3
namespace Rc
open Go Go.Proofs Eng
set_option linter.unusedVariables false
set_option linter.unusedSimpArgs false
set_option maxRecDepth 100000
set_option maxHeartbeats 4000000
def EZ1 : Env := (E0.addP 66 withinC).inl 67 Tryz.f67 fun _ _ => .unroll 2 1 :: rds 6
theorem EZ1_ok : EnvOk Tryz.prog EZ1 := (E0_ok.addP withinR_ok).inl _ Tryz.func67 rfl (by kernel_rfl)
def EZ2 : Env := EZ1.inl 42 Tryz.f42 fun _ _ => .draw 19 (.take 0 (.take 1 (.take 2 (.take 3 (.take 4 (.br 5 (.take 6 (.br 7 .fin .stop)) .stop)))))) [3] :: rds 24
theorem EZ2_ok : EnvOk Tryz.prog EZ2 := EZ1_ok.inl _ Tryz.func42 rfl (by kernel_rfl)
abbrev zSV (b o c : Nat) (z : Bool) (sp : Option Nat) : SV := .agg [.int .i64 5, .int .i64 9, .str [], .int .i64 0, .int .u32 0, .int .i64 0, .str [], .int .i64 0, .int .i64 0, .bool false, .wsl 0 b o [] 2 0 c z sp]
theorem putZ_walk (b o c : Nat) (z : Bool) (sp : Option Nat) : exCode EZ2 Tryz.f12.ntmps (rds 2) (match Tryz.f12.body with | some c => c | none => .skip) (argFr 0 [zSV b o c z sp]) [] 0 (atEnd EZ2 Tryz.f12.results.toList fun r _ _ => eqv r (.tup [.str [], .int .i64 2])) := by
  refine vc_of (q :=
      ∀ (b1:Nat), (b1=b1∧0=0)∧∀ (b2:Nat), (b2=b2∧0=0)∧(b2=b2∧0=0)∧(b2=b2∧0=0)∧∀ (b3:Nat), (b3=b3∧0=0)∧(b2=b2∧0=0)∧(b2=b2∧0=0)∧(b2=b2∧0=0)∧((b3=b3∧0=0)∧((b3=b3∧0=0)∧(b2=b2∧0=0)∧(decide ((↑(0:Nat):Int)≤(20:Int))=true→b2=b2∧0=0)∧(false=false∧decide ((↑(0:Nat):Int)≤(20:Int))=true→b2=b2∧0=0)∧([]:List UInt8)=[]∧(2:Int)=2)∧True)∧True) (by kernel_rfl) ?_
  try simp only [eq_self, true_and, and_true, Nat.le_refl, implies_true, forall_const, Bool.false_eq_true, Bool.true_eq_false, reduceCtorEq, false_imp_iff, true_imp_iff, Int.toNat_zero, Int.toNat_natCast, Nat.zero_lt_one, Int.le_refl, allGet]
def uG (g : GapD) : U := ⟨5, 9, [], 0, 0, 0, [], 0, 0, false, gapsOf g⟩
theorem uG_nil {g : GapD} (h : g.n = 0) : putU (uG g) = [] ∧ putE (uG g) = 2 := by
  have h0 : gapsOf g = [] := by simp [gapsOf, h]
  have : ¬ okU (uG g) := by
    rintro ⟨_, q, _⟩
    have q : _ ∧ _ ∧ ((false : Bool) = true ∨ 0 < (gapsOf g).length) := q
    rw [h0] at q
    rcases q.2.2 with q | q
    · cases q
    · exact absurd q (by decide)
  rw [putU, putE, if_neg this, if_neg this]
  exact ⟨rfl, rfl⟩
def putW : List SV → Hp → Option (List Ob × SV) := fun args H => match args with
  | [.agg [.int .i64 a0, .int .i64 a1, .str a2, .int .i64 a3, .int .u32 a4, .int .i64 a5, .str a6, .int .i64 a7, .int .i64 a8, .bool a9, .wsl g b off p wd n c z sp]] => match Nat.beq g 999999 with
    | false => match rowOf H g b off p wd z with
      | some (ps, m, get) => some (.p (a0 = 5 ∧ a1 = 9 ∧ a2 = [] ∧ a3 = 0 ∧ a4 = 0 ∧ a5 = 0 ∧ a6 = [] ∧ a7 = 0 ∧ a8 = 0 ∧ a9 = false) :: .p (n ≤ 8796093022208) :: .p (0 < n → sp = none) :: .c (Nat.beq wd 2) :: .p (n ≤ m) :: .p (allGet eGap get n) :: ps,
          .tup [.str (putU (uG ⟨b, off + pathOff p, n, c, z, fun k => (eGap.get (get k)).getD eGap.dflt⟩)), .int .i64 (putE (uG ⟨b, off + pathOff p, n, c, z, fun k => (eGap.get (get k)).getD eGap.dflt⟩))])
      | none => none
    | true => none
  | _ => none
theorem allTrue_app {l m : List Ob} (h1 : allTrue l) (h2 : allTrue m) : allTrue (l ++ m) := by
  induction l with
  | nil => exact h2
  | cons a r ih => cases a <;> exact ⟨h1.1, ih h1.2⟩
theorem putW_ok : PcOk Tryz.prog 12 putW := by
  intro args H ps v h hw hp hX
  unfold putW at h
  split at h
  · rename_i a0 a1 a2 a3 a4 a5 a6 a7 a8 a9 g b off p wd n c z sp
    split at h
    · rename_i hg
      split at h
      · rename_i qs m get hrow
        simp only [Option.some.injEq, Prod.mk.injEq] at h
        obtain ⟨rfl, rfl⟩ := h
        obtain ⟨h0, hn, hs, hwd, hm, ha, hq⟩ := hp
        have h0 : a0 = 5 ∧ a1 = 9 ∧ a2 = [] ∧ a3 = 0 ∧ a4 = 0 ∧ a5 = 0 ∧ a6 = [] ∧ a7 = 0 ∧ a8 = 0 ∧ a9 = false := h0
        have hn : n ≤ 8796093022208 := hn
        have hs : 0 < n → sp = none := hs
        have hwd : wd = 2 := beqN hwd
        have hm : n ≤ m := hm
        have ha : allGet eGap get n := ha
        obtain ⟨rfl, rfl, rfl, rfl, rfl, rfl, rfl, rfl, rfl, rfl⟩ := h0
        subst hwd
        have hwl : (z = true → n = 0 ∧ c = 0) ∧ n ≤ c ∧ c ≤ 9223372036854775807 := by
          have := hw _ (List.mem_singleton.2 rfl)
          exact this.2.2.2.2.2.2.2.2.2.2.2.2.2.2.2.2.2.2.2.2.1
        refine ⟨⟨by have := putU_len (uG ⟨b, off + pathOff p, n, c, z, fun k => (eGap.get (get k)).getD eGap.dflt⟩); show (putU _).length ≤ _; omega, trivial, trivial⟩, goFn_of Tryz.func12 rfl (by kernel_rfl), fun C w hS => ?_⟩
        rcases Nat.eq_zero_or_pos n with rfl | hpos
        · have e : SV.denL [SV.agg [.int .i64 5, .int .i64 9, .str [], .int .i64 0, .int .u32 0, .int .i64 0, .str [], .int .i64 0, .int .i64 0, .bool false, .wsl g b off p 2 0 c z sp]] = SV.denL [zSV b (off + pathOff p) c z sp] := by
            simp [SV.denL, SV.den, SV.flatL, SV.flat, pathOff]
          rw [e]
          have hS0 : Sat (Own w) [] w := ⟨Kept.refl w, fun e he => (by cases he), List.Pairwise.nil⟩
          refine (calls_of_ex (nx := 0) EZ2_ok Tryz.func12 rfl (rds 2) [zSV b (off + pathOff p) c z sp] (fun x hx => ?_) (Nat.le_of_ble_eq_true rfl) [] _ (putZ_walk b (off + pathOff p) c z sp) hS0).mono ?_
          · rw [List.mem_singleton.1 hx]
            simp [SV.wf, SV.wfA, SV.nt]
            exact ⟨fun q => (hwl.1 q).2, hwl.2.2⟩
          · rintro e w' ⟨r, H', nx', k1, k2, k3, k4⟩
            obtain ⟨u1, u2⟩ := uG_nil (g := ⟨b, off + pathOff p, 0, c, z, fun k => (eGap.get (get k)).getD eGap.dflt⟩) rfl
            rw [u1, u2]
            exact ⟨by rw [k3, (eqv_sound _ _ k1).den], hS.trans_own k4.kept⟩
        · obtain rfl := hs hpos
          have e : SV.denL [SV.agg [.int .i64 5, .int .i64 9, .str [], .int .i64 0, .int .u32 0, .int .i64 0, .str [], .int .i64 0, .int .i64 0, .bool false, .wsl g b off p 2 n c z none]] = SV.denL [SV.agg [.int .i64 5, .int .i64 9, .str [], .int .i64 0, .int .u32 0, .int .i64 0, .str [], .int .i64 0, .int .i64 0, .bool false, .slice g b off p 2 0 n c z]] := by
            simp [SV.denL, SV.den, SV.flatL, SV.flat]
          rw [e]
          have key : putC [SV.agg [.int .i64 5, .int .i64 9, .str [], .int .i64 0, .int .u32 0, .int .i64 0, .str [], .int .i64 0, .int .i64 0, .bool false, .slice g b off p 2 0 n c z]] H = some (.c true :: .c true :: .p (sh 0 n ≤ m) :: .p (allGet eGap (fun k => get (sh 0 k)) n) :: ((qs ++ []) ++ []) ++ pOb [n ≤ 8796093022208, 0 ≤ (0 : Int) ∧ (0 : Int) ≤ 4294967295], .tup [.str (putU (uG ⟨b, off + (pathOff p + 0 * 2), n, c, z, fun k => (eGap.get (get k)).getD eGap.dflt⟩)), .int .i64 (putE (uG ⟨b, off + (pathOff p + 0 * 2), n, c, z, fun k => (eGap.get (get k)).getD eGap.dflt⟩))]) := by
            unfold putC pcOf
            simp only [ArgL.cons, ArgL.nil, Arg.agg, Arg.elt, Arg.row, hg, hrow]
            rfl
          obtain ⟨_, _, k⟩ := putR_ok _ _ _ _ key (fun x hx => by
            rw [List.mem_singleton.1 hx]
            simp [SV.wf, SV.wfA, SV.nt]
            exact hwl) (by
            rw [List.append_nil, List.append_nil]
            exact ⟨rfl, rfl, hm, ha, allTrue_app hq ⟨hn, ⟨by decide, by decide⟩, trivial⟩⟩) hX
          refine (k C w hS).mono fun e w' ⟨q1, q2⟩ => ⟨?_, q2⟩
          rw [q1, Nat.zero_mul, Nat.add_zero]
      · cases h
    · cases h
  · cases h
end Rc
