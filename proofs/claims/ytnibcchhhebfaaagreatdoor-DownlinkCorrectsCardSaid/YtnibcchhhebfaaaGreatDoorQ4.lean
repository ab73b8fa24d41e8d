/-
  OWN WORK. The convolutional code: Encode.
-/
import Derived.Test.YtnibcchhhebfaaaGreatDoorQ3
namespace Vt
open Go Go.Proofs Eng
set_option linter.unusedVariables false
set_option linter.unusedSimpArgs false
set_option maxRecDepth 100000
set_option maxHeartbeats 4000000
/-- A code's first n parts, and the rest. -/
def splitC : Nat → Code → List Code × Code
  | n + 1, .seq a b => (a :: (splitC n b).1, (splitC n b).2)
  | _, c => ([], c)
theorem splitC_eq : ∀ (n : Nat) (c : Code), seqs (splitC n c).1 (splitC n c).2 = c
  | 0, c => by cases c <;> rfl
  | n + 1, c => by
    cases c with
    | seq a b =>
      show Code.seq a (seqs (splitC n b).1 (splitC n b).2) = _
      rw [splitC_eq n b]
    | _ => rfl
noncomputable def encC0 : Code := (match Tryz.f56.body with | some c => c | none => .skip)
/-- Ahead of the range; its two codes; behind it. -/
noncomputable def encR6 : Code := (match (splitC 5 encC0).2 with | .seq (.seq a _) _ => a | _ => .skip)
noncomputable def encAs : Code := (match (splitC 5 encC0).2 with | .seq (.seq _ (.block _ (.rangeFunc _ _ a _))) _ => a | _ => .skip)
noncomputable def encBd : Code := (match (splitC 5 encC0).2 with | .seq (.seq _ (.block _ (.rangeFunc _ _ _ b))) _ => b | _ => .skip)
noncomputable def encPo : Code := (match (splitC 5 encC0).2 with | .seq _ c => c | _ => .skip)
theorem enc_rest : (splitC 5 encC0).2 = .seq (.seq encR6 (.block 0 (.rangeFunc (.tmp 18) #[19] encAs encBd))) encPo := by kernel_rfl
/-- The bits that have come. -/
def btL (pre : List (Fin 2)) (i : Nat) : Nat := (pre.getD i 0).val
structure EnB where
  b1 : Nat
  b2 : Nat
  b3 : Nat
  b4 : Nat
abbrev EnY := Nat × Nat × Nat
abbrev enT (x : EnB) : Ent := ⟨700, x.b1, 0, 384, 1, fun _ => trelV, true, true, 1, 123, false, none⟩
abbrev enO (x : EnB) (n : Nat) (y : EnY) : Ent := ⟨701, x.b2, 0, 1, 1, fun _ => .slice 703 y.1 y.2.1 [] 1 0 n y.2.2 false, true, true, 1, 31, false, none⟩
abbrev enS (x : EnB) (s : Nat) : Ent := ⟨702, x.b3, 0, 1, 1, fun _ => .int .i64 (s : Nat), true, true, 1, 3, false, none⟩
abbrev enR (pre : List (Fin 2)) (y : EnY) : Ent := ⟨703, y.1, y.2.1, 1, 2 * pre.length, fun k => .int .u8 (sym (btL pre) k : Nat), true, false, y.2.2, 5, false, none⟩
abbrev enL (x : EnB) (l : List UInt8) : Ent := ⟨4, x.b4, 0, 1, 1, fun _ => .str l, true, true, 1, 9, false, none⟩
abbrev enDp (x : EnB) (pre : List (Fin 2)) (y : EnY) : Hp := [enO x (2 * pre.length) y, enS x (stAt (btL pre) pre.length), enR pre y]
abbrev enInv (pre : List (Fin 2)) (y : EnY) : Prop := 2 * pre.length ≤ y.2.2 ∧ y.2.2 ≤ 9223372036854775807 ∧ pre.length ≤ 100000
/-- What stands ahead of the range. -/
def enLA (l : List UInt8) : LA := ⟨0, EnB × EnY, [4, 5, 6, 18], fun z => [.ptr 700 z.1.b1 0 [.elt 0 384], .ptr 701 z.1.b2 0 [.elt 0 1], .ptr 702 z.1.b3 0 [.elt 0 1], .fn (.func 116) [] [.ptr 4 z.1.b4 0 [.elt 0 1]]], [701, 702, 703, 700, 4], fun z => enDp z.1 [] z.2 ++ [enT z.1, enL z.1 l], fun z => enInv [] z.2, fun _ => 0⟩
def EEN : Env := (((E0.addP 82 trelC).addP 32 symsC).inl 83 Tryz.f83 fun _ _ => [])
theorem EEN_ok : EnvOk Tryz.prog EEN := (((E0_ok.addP trel_ok).addP syms_ok).inl _ Tryz.func83 rfl (by kernel_rfl))
/-- The way to the range. -/
theorem enc_pre (l : List UInt8) (hl : l.length ≤ 1100) :
    exSeqs EEN Tryz.f56.ntmps (fun _ _ _ _ => False) (fun fr H nx => exCode EEN Tryz.f56.ntmps [] encR6 fr H nx fun e fr' H' nx' => e = .normal ∧ ∃ z, meets (enLA l) fr' H' z (enInv [] z.2)) (splitC 5 encC0).1 (argFr 0 [.str l]) [] 0 := by
  refine vc_of (q :=
      ∀ (v1:Int), v1=(↑(List.length l):Int)→(decide (v1 > (1100:Int))=true→False)∧(decide (v1 > (1100:Int))=false→∀ (b1:Nat), (b1=b1∧0=0)∧∀ (v2:Int), v2=(↑(List.length l):Int)→∀ (v3:Int), (v3=if v2 < 0∨v2 > 1100 then (0:Int) else (16:Int)*v2+(12:Int))→(0:Int)≤(0:Int)∧0≤v3∧v3*(↑(1:Nat):Int)≤(140737488355328:Int)∧v3≤9223372036854775807∧∀ (b2 b3:Nat), (b3=b3∧0=0)∧∀ (b4:Nat), (b4=b4∧0=0)∧∀ (b5:Nat),
      Eng.EK.normal=Eng.EK.normal∧∃ (x1:Vt.EnB × Nat × Nat × Nat), (0=0∧b1=Vt.EnB.b1 x1.1∧0=0)∧(0=0∧b3=Vt.EnB.b2 x1.1∧0=0)∧(0=0∧b4=Vt.EnB.b3 x1.1∧0=0)∧SVeq (SV.fn (Go.Fn.func 116) [] [SV.ptr 4 b5 0 [PS.elt 0 1]]) (SV.fn (Go.Fn.func (116:Go.FuncId)) [] [SV.ptr 4 (Vt.EnB.b4 x1.1) 0 [PS.elt 0 1]])∧((b3=Vt.EnB.b2 x1.1∧0=0∧false=false∧1≤1∧1≤1∧1≤1)∧b2=x1.2.1∧0=x1.2.2.1∧0=0∧Int.toNat (0:Int)=0∧Int.toNat
      v3=x1.2.2.2∧false=false)∧((b4=Vt.EnB.b3 x1.1∧0=0∧false=false∧1≤1∧1≤1∧1≤1)∧(0:Int)=(↑(Vt.stAt (Vt.btL []) (List.length ([]:List UInt8))):Int))∧((b2=x1.2.1∧0=x1.2.2.1∧false=false∧0≤Int.toNat v3∧0≤x1.2.2.2∧x1.2.2.2≤Int.toNat v3)∧∀ (i1:Nat), i1 < 0→(0:Int)=(↑(Vt.sym (Vt.btL []) i1):Int))∧((b1=Vt.EnB.b1 x1.1∧0=0∧false=false∧1≤1∧1≤1∧1≤1)∧SVeq (SV.arr 64 6 fun (s:Nat) ↦ SV.arr 2 3 fun (b:Nat) ↦ SV.agg
      [SV.int IntKind.i64 (if true=true then (↑(Vt.nxt s b):Int) else (0:Int)), SV.int IntKind.i64 (if true=true then (↑(Vt.fs s b):Int) else (0:Int)), SV.int IntKind.i64 (if true=true then (↑(Vt.sc s b):Int) else (0:Int))]) (SV.arr 64 6 fun (s:Nat) ↦ SV.arr 2 3 fun (b:Nat) ↦ SV.agg [SV.int IntKind.i64 (if true=true then (↑(Vt.nxt s b):Int) else (0:Int)), SV.int IntKind.i64 (if true=true then (↑(Vt.fs s
      b):Int) else (0:Int)), SV.int IntKind.i64 (if true=true then (↑(Vt.sc s b):Int) else (0:Int))]))∧((b5=Vt.EnB.b4 x1.1∧0=0∧false=false∧1≤1∧1≤1∧1≤1)∧l=l)∧0≤x1.2.2.2∧x1.2.2.2≤9223372036854775807∧List.length ([]:List (Int × Int))≤100000)) (by kernel_rfl) ?_
  refine fun v1 e1 => ⟨fun q => absurd (of_decide_eq_true q) (by omega), fun _ b1 => ⟨⟨rfl, rfl⟩, fun v2 e2 v3 e3 => ?_⟩⟩
  have e3 : v3 = 16 * l.length + 12 := by rw [e3, if_neg (by omega), e2]
  refine ⟨Int.le_refl _, by omega, by omega, by omega, fun b2 b3 => ⟨⟨rfl, rfl⟩, fun b4 => ⟨⟨rfl, rfl⟩, fun b5 => ⟨rfl, (⟨b1, b3, b4, b5⟩, b2, 0, v3.toNat), ?_⟩⟩⟩⟩
  exact ⟨⟨rfl, rfl, rfl⟩, ⟨rfl, rfl, rfl⟩, ⟨rfl, rfl, rfl⟩, SVeq.of_eq rfl, ⟨⟨rfl, rfl, rfl, Nat.le_refl _, Nat.le_refl _, Nat.le_refl _⟩, rfl, rfl, rfl, rfl, rfl, rfl⟩, ⟨⟨rfl, rfl, rfl, Nat.le_refl _, Nat.le_refl _, Nat.le_refl _⟩, rfl⟩, ⟨⟨rfl, rfl, rfl, Nat.zero_le _, Nat.zero_le _, Nat.le_refl _⟩, fun i hi => absurd hi (Nat.not_lt_zero _)⟩, ⟨⟨rfl, rfl, rfl, Nat.le_refl _, Nat.le_refl _, Nat.le_refl _⟩, SVeq.of_eq rfl⟩, ⟨⟨rfl, rfl, rfl, Nat.le_refl _, Nat.le_refl _, Nat.le_refl _⟩, rfl⟩, Nat.zero_le _, by show v3.toNat ≤ _; omega, Nat.zero_le _⟩
abbrev enFr (x : EnB) : Fr := zipFr [4, 5, 6, 18] [.ptr 700 x.b1 0 [.elt 0 384], .ptr 701 x.b2 0 [.elt 0 1], .ptr 702 x.b3 0 [.elt 0 1], .fn (.func 116) [] [.ptr 4 x.b4 0 [.elt 0 1]]]
abbrev enV (u : Fin 2) : SV := .int .i64 (u.val : Nat)
abbrev enA (x : EnB) (u : Fin 2) : Fr := ⟨7, [], enV u⟩ :: ⟨19, [], enV u⟩ :: enFr x
theorem enc_as (x : EnB) (l : List UInt8) (pre : List (Fin 2)) (y : EnY) (u : Fin 2) (hi : enInv pre y) : exCode EEN Tryz.f56.ntmps [] encAs (⟨19, [], enV u⟩ :: enFr x) (Hp.app (enDp x pre y) (Hp.ro [enT x, enL x l])) 800 fun e fr' H' nx' => e = .normal ∧ fr' = enA x u ∧ ∃ z, meets (seqLA [701, 702, 703] (enDp x) enInv) fr' H' z (z.1 = pre ∧ enInv z.1 z.2) := by
  refine vc_of (q :=
      Eng.EK.normal=Eng.EK.normal∧[Eng.FE.mk 7 [] (SV.int IntKind.i64 (↑(↑u:Nat):Int)), Eng.FE.mk 19 [] (SV.int IntKind.i64 (↑(↑u:Nat):Int)), Eng.FE.mk 4 [] (SV.ptr 700 (Vt.EnB.b1 x) 0 [PS.elt 0 384]), Eng.FE.mk 5 [] (SV.ptr 701 (Vt.EnB.b2 x) 0 [PS.elt 0 1]), Eng.FE.mk 6 [] (SV.ptr 702 (Vt.EnB.b3 x) 0 [PS.elt 0 1]), Eng.FE.mk 18 [] (SV.fn (Go.Fn.func (116:Go.FuncId)) [] [SV.ptr 4 (Vt.EnB.b4 x) 0 [PS.elt
      0 1]])]=[Eng.FE.mk 7 [] (SV.int IntKind.i64 (↑(↑u:Nat):Int)), Eng.FE.mk 19 [] (SV.int IntKind.i64 (↑(↑u:Nat):Int)), Eng.FE.mk 4 [] (SV.ptr 700 (Vt.EnB.b1 x) 0 [PS.elt 0 384]), Eng.FE.mk 5 [] (SV.ptr 701 (Vt.EnB.b2 x) 0 [PS.elt 0 1]), Eng.FE.mk 6 [] (SV.ptr 702 (Vt.EnB.b3 x) 0 [PS.elt 0 1]), Eng.FE.mk 18 [] (SV.fn (Go.Fn.func (116:Go.FuncId)) [] [SV.ptr 4 (Vt.EnB.b4 x) 0 [PS.elt 0 1]])]∧∃ (x1:List
      (Fin 2) × Nat × Nat × Nat), ((Vt.EnB.b2 x=Vt.EnB.b2 x∧0=0∧false=false∧1≤1∧1≤1∧1≤1)∧y.1=x1.2.1∧y.2.1=x1.2.2.1∧0=0∧2*List.length pre=2*List.length x1.1∧y.2.2=x1.2.2.2∧false=false)∧((Vt.EnB.b3 x=Vt.EnB.b3 x∧0=0∧false=false∧1≤1∧1≤1∧1≤1)∧(↑(Vt.stAt (Vt.btL pre) (List.length pre)):Int)=(↑(Vt.stAt (Vt.btL x1.1) (List.length x1.1)):Int))∧((y.1=x1.2.1∧y.2.1=x1.2.2.1∧false=false∧2*List.length
      x1.1≤2*List.length pre∧2*List.length x1.1≤x1.2.2.2∧x1.2.2.2≤y.2.2)∧∀ (i1:Nat), i1 < 2*List.length x1.1→(↑(Vt.sym (Vt.btL pre) i1):Int)=(↑(Vt.sym (Vt.btL x1.1) i1):Int))∧x1.1=pre∧2*List.length x1.1≤x1.2.2.2∧x1.2.2.2≤9223372036854775807∧List.length x1.1≤100000) (by kernel_rfl) ?_
  exact ⟨rfl, rfl, (pre, y), ⟨⟨rfl, rfl, rfl, Nat.le_refl _, Nat.le_refl _, Nat.le_refl _⟩, rfl, rfl, rfl, rfl, rfl, rfl⟩, ⟨⟨rfl, rfl, rfl, Nat.le_refl _, Nat.le_refl _, Nat.le_refl _⟩, rfl⟩, ⟨⟨rfl, rfl, rfl, Nat.le_refl _, hi.1, Nat.le_refl _⟩, fun _ _ => rfl⟩, rfl, hi.1, hi.2.1, hi.2.2⟩
theorem btL_old {pre : List (Fin 2)} {u : Fin 2} {i : Nat} (h : i < pre.length) : btL (pre ++ [u]) i = btL pre i := by
  unfold btL; rw [List.getD_eq_getElem?_getD, List.getD_eq_getElem?_getD, List.getElem?_append_left h]
theorem btL_new (pre : List (Fin 2)) (u : Fin 2) : btL (pre ++ [u]) pre.length = u.val := by simp [btL]
theorem stAt_congr {bt bt' : Nat → Nat} : ∀ n, (∀ i, i < n → bt i = bt' i) → stAt bt n = stAt bt' n
  | 0, _ => rfl
  | n + 1, h => by show nxt _ _ = nxt _ _; rw [stAt_congr n fun i hi => h i (by omega), h n (by omega)]
theorem sym_congr {bt bt' : Nat → Nat} {n : Nat} (h : ∀ i, i < n → bt i = bt' i) {k : Nat} (hk : k < 2 * n) : sym bt k = sym bt' k := by
  have e := stAt_congr (k / 2) fun i hi => h i (by omega)
  have e2 := h (k / 2) (by omega)
  unfold sym
  rw [e, e2]
theorem btL_lt (pre : List (Fin 2)) (i : Nat) : btL pre i < 2 := (pre.getD i 0).isLt
theorem u8_one {k : Nat} (h : k ≤ 1) : IntKind.u8.wrap ((k : Nat) : Int) = ((k : Nat) : Int) := by rw [IntKind.wrap_u8]; omega
theorem enc_bd (x : EnB) (l : List UInt8) (pre : List (Fin 2)) (y : EnY) (u : Fin 2) (hi : enInv pre y) (hn : pre.length < 8 * l.length + 6) (hl : l.length ≤ 1100) : exCode EEN Tryz.f56.ntmps [] encBd (enA x u) (Hp.app (enDp x pre y) (Hp.ro [enT x, enL x l])) 800 fun e fr' H' nx' => e = .normal ∧ ∃ z, meets (seqLA [701, 702, 703] (enDp x) enInv) fr' H' z (z.1 = pre ++ [u] ∧ enInv z.1 z.2) := by
  refine vc_of (q :=
      (Vt.EnB.b3 x=Vt.EnB.b3 x∧0=0)∧(0:Int)≤(↑(Vt.stAt (Vt.btL pre) (List.length pre)):Int)∧(↑(Vt.stAt (Vt.btL pre) (List.length pre)):Int) < (↑(64:Nat):Int)∧(0:Int)≤(↑(↑u:Nat):Int)∧(↑(↑u:Nat):Int) < (↑(2:Nat):Int)∧(Vt.EnB.b1 x=Vt.EnB.b1 x∧0=0)∧Int.toNat (↑(Vt.stAt (Vt.btL pre) (List.length pre)):Int) < 64∧Int.toNat (↑(↑u:Nat):Int) < 2∧∀ (b1:Nat), (b1=b1∧0=0)∧(Vt.EnB.b2 x=Vt.EnB.b2 x∧0=0)∧(b1=b1∧0=0)∧∀
      (v1:Int), v1=IntKind.u8.wrap (if true=true then (↑(Vt.fs (Int.toNat (↑(Vt.stAt (Vt.btL pre) (List.length pre)):Int)) (Int.toNat (↑(↑u:Nat):Int))):Int) else (0:Int))→(b1=b1∧0=0)∧∀ (v2:Int), v2=IntKind.u8.wrap (if true=true then (↑(Vt.sc (Int.toNat (↑(Vt.stAt (Vt.btL pre) (List.length pre)):Int)) (Int.toNat (↑(↑u:Nat):Int))):Int) else (0:Int))→∀ (b2:Nat),
      (y.1=y.1∧y.2.1=y.2.1)∧(false=true→false=true)∧0=0∧2*List.length pre≤2*List.length pre∧y.2.2≤y.2.2∧(2*List.length pre+2)*1≤140737488355328∧2*List.length pre+2≤9223372036854775807∧2≤2∧(b2=b2∧0=0)∧∀ (b3 b4 b5:Nat), 2*List.length pre+2≤b5→b5≤9223372036854775807→(false=true→2=0→b5=0)→(Vt.EnB.b2 x=Vt.EnB.b2 x∧0=0)∧(b1=b1∧0=0)∧(Vt.EnB.b3 x=Vt.EnB.b3 x∧0=0)∧Eng.EK.normal=Eng.EK.normal∧∃ (x1:List (Fin 2) ×
      Nat × Nat × Nat), ((Vt.EnB.b2 x=Vt.EnB.b2 x∧0=0∧false=false∧1≤1∧1≤1∧1≤1)∧b3=x1.2.1∧b4=x1.2.2.1∧0=0∧2*List.length pre+2=2*List.length x1.1∧b5=x1.2.2.2∧(false&&decide (2=0))=false)∧((Vt.EnB.b3 x=Vt.EnB.b3 x∧0=0∧false=false∧1≤1∧1≤1∧1≤1)∧(if true=true then (↑(Vt.nxt (Int.toNat (↑(Vt.stAt (Vt.btL pre) (List.length pre)):Int)) (Int.toNat (↑(↑u:Nat):Int))):Int) else (0:Int))=(↑(Vt.stAt (Vt.btL x1.1)
      (List.length x1.1)):Int))∧((b3=x1.2.1∧b4=x1.2.2.1∧(false&&decide (2=0))=false∧2*List.length x1.1≤2*List.length pre+2∧2*List.length x1.1≤x1.2.2.2∧x1.2.2.2≤b5)∧∀ (i1:Nat), i1 < 2*List.length x1.1→(if i1 < 2*List.length pre then (↑(Vt.sym (Vt.btL pre) i1):Int) else if i1 - 2*List.length pre=0 then v1 else v2)=(↑(Vt.sym (Vt.btL x1.1) i1):Int))∧x1.1=pre++[u]∧2*List.length
      x1.1≤x1.2.2.2∧x1.2.2.2≤9223372036854775807∧List.length x1.1≤100000) (by kernel_rfl) ?_
  obtain ⟨i1, i2, i3⟩ := hi
  have hs := stAt_lt (btL_lt pre) pre.length
  have hu := u.isLt
  have hst : stAt (btL (pre ++ [u])) pre.length = stAt (btL pre) pre.length := stAt_congr _ fun i hi => btL_old hi
  have hl2 : (pre ++ [u]).length = pre.length + 1 := by simp
  refine ⟨⟨rfl, rfl⟩, by omega, by omega, by omega, by omega, ⟨rfl, rfl⟩, by omega, by omega, fun b1 => ⟨⟨rfl, rfl⟩, ⟨rfl, rfl⟩, ⟨rfl, rfl⟩, fun v1 e1 => ⟨⟨rfl, rfl⟩, fun v2 e2 b2 => ⟨⟨rfl, rfl⟩, fun q => (by cases q), rfl, Nat.le_refl _, Nat.le_refl _, by omega, by omega, Nat.le_refl _, ⟨rfl, rfl⟩, fun b3 b4 b5 h1 h2 _ => ?_⟩⟩⟩⟩
  rw [if_pos rfl, Int.toNat_natCast, Int.toNat_natCast] at e1 e2
  have e1 := e1.trans (u8_one (fs_le _ _))
  have e2 := e2.trans (u8_one (sc_le _ _))
  refine ⟨⟨rfl, rfl⟩, ⟨rfl, rfl⟩, ⟨rfl, rfl⟩, rfl, (pre ++ [u], b3, b4, b5), ⟨⟨rfl, rfl, rfl, Nat.le_refl _, Nat.le_refl _, Nat.le_refl _⟩, rfl, rfl, rfl, by rw [hl2]; omega, rfl, rfl⟩, ⟨⟨rfl, rfl, rfl, Nat.le_refl _, Nat.le_refl _, Nat.le_refl _⟩, ?_⟩, ⟨⟨rfl, rfl, rfl, by rw [hl2]; omega, by dsimp only; rw [hl2]; omega, Nat.le_refl _⟩, fun i hi => ?_⟩, rfl, by dsimp only; rw [hl2]; omega, h2, by dsimp only; rw [hl2]; omega⟩
  · rw [if_pos rfl, Int.toNat_natCast, Int.toNat_natCast]
    dsimp only
    rw [hl2]
    show ((nxt _ _ : Nat) : Int) = ((nxt (stAt (btL (pre ++ [u])) pre.length) (btL (pre ++ [u]) pre.length) : Nat) : Int)
    rw [hst, btL_new]
  · dsimp only at hi ⊢
    rw [hl2] at hi
    by_cases q : i < 2 * pre.length
    · rw [if_pos q, sym_congr (bt := btL (pre ++ [u])) (bt' := btL pre) (n := pre.length) (fun i hi => btL_old hi) q]
    · rw [if_neg q]
      have hd : i / 2 = pre.length := by omega
      by_cases q2 : i - 2 * pre.length = 0
      · rw [if_pos q2, e1]
        unfold sym
        rw [if_pos (by omega), hd, hst, btL_new]
      · rw [if_neg q2, e2]
        unfold sym
        rw [if_neg (by omega), hd, hst, btL_new]
/-- What a message is encoded to. -/
def encS (l : List UInt8) : List UInt8 := Byt.of (fun k => ((sym (bitsOf l) k : Nat) : Int)) (if l.length ≤ 1100 then 16 * l.length + 12 else 0)
theorem encS_len {l : List UInt8} (hl : l.length ≤ 1100) : (encS l).length = 16 * l.length + 12 := by simp [encS, Byt.of, hl]
theorem encS_le (l : List UInt8) : (encS l).length ≤ 20000 := by
  by_cases h : l.length ≤ 1100
  · rw [encS_len h]; omega
  · simp [encS, Byt.of, h]
theorem enc_po (x : EnB) (l : List UInt8) (y : EnY) (hl : l.length ≤ 1100) : exCode EEN Tryz.f56.ntmps [] encPo (enFr x) (Hp.ro (Hp.app (enDp x (bitsL l (8 * l.length + 6)) y) [enT x, enL x l])) 800 fun e fr' _ _ => e = .ret ∧ fr'.find 2 = some ⟨2, [], .str (encS l)⟩ ∧ fr'.find 3 = some ⟨3, [], .int .i64 0⟩ := by
  refine vc_of (q :=
      (Vt.EnB.b2 x=Vt.EnB.b2 x∧0=0)∧2*List.length (Vt.bitsL l (8*List.length l+6))≤2*List.length (Vt.bitsL l (8*List.length l+6))∧(∀ (k1:Nat), k1 < 2*List.length (Vt.bitsL l (8*List.length l+6))→true=true)∧(y.1=y.1∧y.2.1=y.2.1)∧∀ (s1:List UInt8), s1=Byt.of (fun (k:Nat) ↦ (↑(Vt.sym (Vt.btL (Vt.bitsL l (8*List.length l+6))) k):Int)) (2*List.length (Vt.bitsL l (8*List.length
      l+6)))→Eng.EK.ret=Eng.EK.ret∧Option.some (Eng.FE.mk 2 [] (SV.str s1))=Option.some (Eng.FE.mk 2 [] (SV.str (Vt.encS l)))∧Option.some (Eng.FE.mk 3 [] (SV.int IntKind.i64 (0:Int)))=Option.some (Eng.FE.mk 3 [] (SV.int IntKind.i64 (0:Int)))) (by kernel_rfl) ?_
  refine ⟨⟨rfl, rfl⟩, Nat.le_refl _, fun _ _ => rfl, ⟨rfl, rfl⟩, fun s1 e1 => ?_⟩
  have : s1 = encS l := by
    rw [e1, bitsL_len, show 2 * (8 * l.length + 6) = 16 * l.length + 12 by omega]
    unfold encS Byt.of
    rw [if_pos hl]
    refine List.map_congr_left fun k hk => ?_
    have hk : k < 16 * l.length + 12 := List.mem_range.1 hk
    dsimp only
    rw [sym_congr (bt := btL (bitsL l (8 * l.length + 6))) (bt' := bitsOf l) (n := 8 * l.length + 6) (fun i hi => ?_) (by omega)]
    simp [btL, bitsL, bitF, List.getD, hi]
  rw [this]
  exact ⟨rfl, rfl, rfl⟩
theorem bits_stops {B : Nat} {l : List UInt8} (hl : l.length ≤ 1100) {w : World} (hB : w.cell? ⟨B, 0, none⟩ = some (.string ⟨l.toArray⟩)) :
    SeqStopsK Fence.wide 2 Tryz.prog 116 #[.pointer (some ⟨B, 0, none⟩)] (fun u => #[(enV u).den]) (KpB B) (fun ys => ys = bitsL l (8 * l.length + 6)) (fun _ => True) (8 * l.length + 6) w := by
  intro lp J Jx W hW hJ hJx hY h0
  have hlt : B < w.heap.size := by
    unfold World.cell? at hB
    split at hB
    · rename_i hb; exact (Array.getElem?_eq_some_iff.1 hb).1
    · cases hB
  exact bits_in lp B l hl J Jx hY W ((World.cell?_of_block (hW.block B hlt)).trans hB) h0
def encC := pcOf (.cons (.elt .str) .nil : ArgL (List UInt8 × Unit)) (fun x => [x.1.length ≤ 1100]) (fun x => .tup [.str (encS x.1), .int .i64 0])
theorem enc_ok : PcOk Tryz.prog 56 encC := by
  refine pcOf_ok (goFn_of Tryz.func56 rfl (by kernel_rfl)) (fun x hw => ⟨by have := encS_le x.1; show (encS x.1).length ≤ _; omega, trivial, trivial⟩) (fun ⟨l, ()⟩ hp hw w hS => ?_)
  have hl : l.length ≤ 1100 := hp.1
  refine (callsIn_wide (n := 3)).1 (callsIn_of_wp_marks (n := 3) Tryz.func56 (c := encC0) rfl trivial ?_ rfl)
  refine (wpIn_wide).2 ?_
  rw [← splitC_eq 5 encC0]
  refine seqs_sound EEN_ok (splitC 5 encC0).1 (argFr 0 [.str l]) [] 0 _ w (enc_pre l hl) (has_args (fun x hx => by rw [List.mem_singleton.1 hx]; show l.length ≤ _; omega) (Nat.le_of_ble_eq_true rfl)) hS ?_ (fun e fr' H' nx' a' w' h => h.elim)
  intro fr1 H1 n1 a1 w1 h1 hA1 hS1 hd1
  have hd1 : a1.defers = [] := hd1
  rw [enc_rest]
  refine wp_seq (wp_seq (exCode_sound EEN_ok [] encR6 _ _ _ _ _ _ a1 w1 h1 hA1 hS1 ?_))
  rintro e fr2 H2 n2 a2 w2 ⟨rfl, ⟨x, y⟩, hm⟩ hA2 hS2 hU2
  have hd2 : a2.defers = [] := hU2.defers.trans hd1
  obtain ⟨hi, m2, m3, m4⟩ := meets_sound hA2 hS2 hm
  have hA3 : Has Tryz.f56.ntmps (enFr x) a2 := head_has (F := []) hA2.size m2 (fun s e he => by simp [Fr.find] at he)
  have hgd : ∀ e ∈ enFr x, e.gd = [] := fun e he => by
    simp [enFr, zipFr] at he
    rcases he with rfl | rfl | rfl | rfl <;> rfl
  have m3 : Sat (Own w) (Hp.app (enDp x [] y) [enT x, enL x l]) w2 := m3
  have hg : a2.eval (.tmp 18) = .func (.func 116) #[] #[.pointer (some ⟨x.b4, 0, none⟩)] := by
    have := (hA3.slot 18 _ rfl).1
    simp only [condB, if_true] at this
    show a2.tmps.getD 18 undef = _
    rw [Array.getD_eq_getD_getElem?, this]
    rfl
  refine wp_block (wp_range (nx := 800) (fr := enFr x) (α := Fin 2) (β := EnY) EEN_ok enV (fun _ => trivial) (by kernel_rfl) (by kernel_rfl) hA3 hgd (by decide) [701, 702, 703] (enDp x) enInv (fun pre y e he => ?_) hi m3 (x := enL x l) (List.mem_cons_of_mem _ (List.mem_cons_self ..)) rfl rfl hg
    (enters_of Tryz.func116 (by kernel_rfl) rfl) (bits_stops hl ?_) (enA x) (fun pre y u hv => enc_as x l pre y u hv) (fun pre y u hv hn => enc_bd x l pre y u hv hn hl) ?_)
  · simp [Hp.app] at he
    rcases he with rfl | rfl | rfl | rfl | rfl <;> rfl
  · exact ((m3.ents (enL x l) (by simp [Hp.app])).row 0 Nat.one_pos).2.2.2 0 Nat.one_pos
  rintro D xs y2 W hD rfl hv hS3 hK
  have hDlt : D < W.heap.size := (Array.getElem?_eq_some_iff.1 hK).1
  have hS4 : Sat (Fm W []) (Hp.ro (Hp.app (enDp x (bitsL l (8 * l.length + 6)) y2) [enT x, enL x l])) W := Sat.frame_in (D := []) hS3
  refine exCode_sound EEN_ok [] encPo _ (enFr x) _ 800 _ _ _ W (enc_po x l y2 hl) (has_defers hA3 hgd _) hS4 ?_
  rintro e fr' H' nx' a' w' ⟨rfl, f2, f3⟩ hA' hS' hU'
  have hdf : a'.defers = [{ target := .collected D, args := #[] }] := by
    rw [hU'.defers, hd2]
  have hkD : w'.heap[D]? = some (.deferred (some [])) := (hS'.kept.block D hDlt (fun ⟨_, h, _⟩ => by cases h)).trans hK
  show LeavesInM _ _ _ _ _ _ a'.defers _ _
  rw [hdf]
  refine ⟨by simp, .inl ⟨D, _, rfl, run_takeDeferred hkD, _, results_tmp2 rfl _ _ _, ?_⟩⟩
  have t2 := (hA'.slot 2 _ f2).1
  have t3 := (hA'.slot 3 _ f3).1
  simp only [condB, if_true] at t2 t3
  refine ⟨.tup [.str (encS l), .int .i64 0], [], 0, rfl, ⟨by have := encS_le l; show (encS l).length ≤ _; omega, trivial, trivial⟩, ?_, ⟨?_, fun _ h => (by cases h), List.Pairwise.nil⟩⟩
  · rw [Array.getD_eq_getD_getElem?, Array.getD_eq_getD_getElem?, t2, t3]
    rfl
  · have k1 := hS3.kept
    have k2 := hS'.kept
    have hwD : w.heap.size ≤ D := Nat.le_trans m3.kept.size hD
    refine ⟨k2.os.trans k1.os, k2.tape.trans k1.tape, k2.output.trans k1.output, Nat.le_trans k1.size (Nat.le_trans k2.size (by simp [World.putObj])), fun k hk hM => ?_⟩
    refine (World.putObj_heap_other (by have : k < w.heap.size := hk; omega)).trans ((k2.block k (Nat.lt_of_lt_of_le hk k1.size) (fun ⟨_, h, _⟩ => by cases h)).trans (k1.block k hk hM))
end Vt
