/-
  OWN WORK. Block: Encode, both programs.
-/
import Derived.Test.YtnibcchhhebfaaaGreatDoorB1
import Derived.Test.YtnibcchhhebfaaaGreatDoorGD
namespace Galois
open Go Go.Proofs Eng
set_option linter.unusedVariables false
set_option linter.unusedSimpArgs false
set_option maxHeartbeats 4000000
set_option maxRecDepth 100000

theorem bytof_self {f : Nat → Int} {l : List UInt8} {n : Nat} (hn : l.length = n) (h : ∀ k, k < n → f k = ((l.getD k 0).toNat : Int)) : Byt.of f n = l := by
  apply List.ext_getElem (by simp [Byt.of, hn])
  intro k h1 h2
  have hk : k < n := by omega
  simp only [Byt.of, List.getElem_map, List.getElem_range]
  rw [h k hk]
  simp [List.getD, h2]
/-- The generator; a name that no reduction opens. -/
theorem gpoly_ex : ∃ g : List UInt8, g = [24, 200, 173, 239, 54, 81, 11, 255, 1] := ⟨_, rfl⟩
noncomputable def gpoly : List UInt8 := Classical.choose gpoly_ex
theorem gpoly_eq : gpoly = [24, 200, 173, 239, 54, 81, 11, 255, 1] := Classical.choose_spec gpoly_ex
/-- The rest of the data, eight places higher, divided by the generator. -/
noncomputable def parR (d : List UInt8) : List UInt8 := resL ([0, 0, 0, 0, 0, 0, 0, 0] ++ revL d) gpoly
theorem genK_val : genK 8 = [24, 200, 173, 239, 54, 81, 11, 255, 1] := by
  have h : decide (genK 8 = [24, 200, 173, 239, 54, 81, 11, 255, 1]) = true := by kernel_rfl
  exact of_decide_eq_true h
theorem genK_tlen : tlen gpoly = 9 := by rw [gpoly_eq]; rfl
theorem parR_len (d : List UInt8) : (parR d).length ≤ 8 := by
  have h := (quot_facts (p := [0, 0, 0, 0, 0, 0, 0, 0] ++ revL d) (q := gpoly) (by rw [genK_tlen]; decide)).2
  rw [genK_tlen] at h
  unfold parR
  refine Nat.le_trans (Nat.le_of_eq ?_) h
  unfold resL
  rw [if_neg (by rw [genK_tlen]; decide), tlen_trim, trimL_len]
noncomputable def parP (d : List UInt8) : List UInt8 := Byt.of (fun k => (((parR d).getD k 0).toNat : Int)) 8
theorem parP_len (d : List UInt8) : (parP d).length = 8 := by simp [parP, Byt.of]
theorem parP_eq (d : List UInt8) : parP d = parR d ++ List.replicate (8 - (parR d).length) 0 := by
  have hl := parR_len d
  refine bytof_self (by simp; omega) fun k hk => ?_
  congr 2
  by_cases h : k < (parR d).length
  · simp only [List.getD]
    rw [List.getElem?_append_left h]
  · simp only [List.getD]
    rw [List.getElem?_append_right (by omega), List.getElem?_eq_none (by omega), List.getElem?_replicate]
    split <;> rfl
def encB (d : List UInt8) : Bool := decide (d.length < 1) || decide (223 < d.length)
noncomputable def encL (d : List UInt8) : List UInt8 := if encB d then [] else d ++ revL (parP d)
def encE (d : List UInt8) : Int := if encB d then 2 else 0
theorem encB_eq (d : List UInt8) : (if decide ((d.length : Int) < 1) = true then true else decide ((d.length : Int) > 223)) = encB d := by
  unfold encB
  by_cases h1 : d.length < 1
  · rw [if_pos (decide_eq_true (by omega)), decide_eq_true h1]; rfl
  · rw [if_neg (by rw [decide_eq_true_eq]; omega), decide_eq_false h1, Bool.false_or]
    exact decide_eq_decide.2 (by omega)
theorem encB_len {d : List UInt8} (h : encB d = false) : 1 ≤ d.length ∧ d.length ≤ 223 := by
  unfold encB at h
  simp at h
  refine ⟨?_, by omega⟩
  rcases d with _ | _
  · simp at h
  · exact Nat.succ_le_succ (Nat.zero_le _)
noncomputable def enc := pcOf aStr (fun _ => []) (fun x => .tup [.str (encL x.1), .int .i64 (encE x.1)])
theorem encL_len (d : List UInt8) : (encL d).length ≤ 231 := by
  unfold encL
  split
  · exact Nat.zero_le _
  · rename_i h
    unfold encB at h
    rw [List.length_append, revL_len, parP_len]
    simp at h
    omega
noncomputable def genG := pcOf .nil (fun _ => []) (fun _ => .str gpoly)
theorem gener_eq : gener = genG := by unfold gener genG; rw [genK_val, gpoly_eq]
noncomputable def EBD : Env := ((EBC.addP 114 genG).addP 77 genG).addR 166
theorem EBD_ok : EnvOk Tryz.prog EBD := ((EBC_ok.addP (gener_eq ▸ gener_ok)).addP (gener_eq ▸ generR_ok)).addR
theorem enc_wf (x : List UInt8 × Unit) : (SV.tup [.str (encL x.1), .int .i64 (encE x.1)]).wf := ⟨Nat.le_trans (encL_len _) (by omega), trivial, trivial⟩
theorem enc_ok : PcOk Tryz.prog 80 enc := by
  refine pcOf_runS (fun _ => EBD_ok) Tryz.func80 rfl (by kernel_rfl) (fun x hw => enc_wf x)
    (fun x => [.draw 4 (.take 0 (.take 1 (.take 2 (.take 3 (.take 4 (.take 5 (.take 6 (.take 7 (.take 8 (.take 9 (.take 10 (.take 11 (.take 12 (.take 13 .fin)))))))))))))) []])
    (fun _ => Nat.le_of_ble_eq_true rfl) (fun ⟨d, ()⟩ hp hw => ?_)
  refine vc_of (q :=
      ∀ (v1:Int), v1=(↑(List.length d):Int)→∀ (v2:Int), v2=(↑(List.length d):Int)→∀ (t1:Bool), (t1=if decide (v1 < (1:Int))=true then true else decide (v2 > (223:Int)))→(t1=true→[]=encL d∧(2:Int)=encE d)∧(t1=false→∀ (b1:Nat), (0:Int)≤(↑(8:Nat):Int)∧(↑(8:Nat):Int)≤(↑(8:Nat):Int)∧8≤8∧(∀ (k1:Nat), k1 < Int.toNat (↑(8:Nat):Int)→true=true)∧(b1=b1∧0=0)∧∀ (s1:List UInt8), s1=Byt.of (fun (k:Nat) ↦ (0:Int))
      (Int.toNat (↑(8:Nat):Int))→List.length d≤1000000∧∀ (s2:List UInt8), s2=revL d→List.length s1+List.length s2≤9223372036854775807∧∀ (s3:List UInt8), s3=s1++s2→∀ (s4:List UInt8), s4=gpoly→List.length s3≤3000∧List.length s4≤3000∧∀ (s5:List UInt8), s5=quoL s3 s4→∀ (s6:List UInt8), s6=resL s3 s4→∀ (v3:Int), (v3=if tlen s4=0 then (2:Int) else
      (0:Int))→(0:Int)≤(↑(8:Nat):Int)∧(↑(8:Nat):Int)≤(↑(8:Nat):Int)∧(b1=b1∧0=0)∧8≤8∧∀ (v4:Int), v4=(↑(Min.min (List.length s6) (Int.toNat (↑(8:Nat):Int))):Int)→(0:Int)≤(↑(8:Nat):Int)∧(↑(8:Nat):Int)≤(↑(8:Nat):Int)∧8≤8∧(∀ (k2:Nat), k2 < Int.toNat (↑(8:Nat):Int)→true=true)∧(b1=b1∧0=0)∧∀ (s7:List UInt8), s7=Byt.of (fun (k:Nat) ↦ if 0≤k∧k < 0+Min.min (List.length s6) (Int.toNat (↑(8:Nat):Int)) then
      (↑(UInt8.toNat (List.getD s6 (k - 0) 0)):Int) else (0:Int)) (Int.toNat (↑(8:Nat):Int))→List.length s7≤1000000∧∀ (s8:List UInt8), s8=revL s7→List.length d+List.length s8≤9223372036854775807∧∀ (s9:List UInt8), s9=d++s8→s9=encL d∧(0:Int)=encE d)) (by kernel_rfl) ?_
  try simp only [eq_self, true_and, and_true, Nat.le_refl, implies_true, forall_const, Bool.false_eq_true, Bool.true_eq_false, reduceCtorEq, false_imp_iff, true_imp_iff, Int.toNat_zero, Int.toNat_natCast, Nat.zero_lt_one, Int.le_refl, allGet]
  intro v1 h1 v2 h2 t1 ht1
  have hb : t1 = encB d := by rw [ht1, h1, h2]; exact encB_eq d
  subst hb
  refine ⟨fun h => by unfold encL encE; rw [if_pos h, if_pos h]; exact ⟨rfl, rfl⟩, fun h => ?_⟩
  have hd := encB_len h
  refine ⟨by omega, fun s1 hs1 => ⟨by omega, fun s2 hs2 => ?_⟩⟩
  have l1 : s1.length = 8 := by rw [hs1]; rfl
  have l2 : s2.length = d.length := by rw [hs2, revL_len]
  refine ⟨by omega, fun s3 hs3 s4 hs4 => ?_⟩
  have l3 : s3.length = 8 + d.length := by rw [hs3, List.length_append]; omega
  have l4 : s4.length = 9 := by rw [hs4, gpoly_eq]; rfl
  refine ⟨by omega, by omega, fun s5 hs5 s6 hs6 v3 hv3 => ⟨by omega, fun v4 hv4 => ⟨by omega, fun s7 hs7 => ?_⟩⟩⟩
  have e6 : s6 = parR d := by rw [hs6, hs3, hs4, hs1, hs2]; rfl
  have l6 : s6.length ≤ 8 := by rw [e6]; exact parR_len d
  have e7 : s7 = parP d := by
    rw [hs7, e6]
    exact bof_congr fun k hk => by
      by_cases q : k < (parR d).length
      · rw [if_pos ⟨Nat.zero_le _, by rw [e6] at l6; omega⟩, Nat.sub_zero]
      · rw [if_neg (by omega)]
        simp only [List.getD]
        rw [List.getElem?_eq_none (by omega)]
        rfl
  have l7 : s7.length = 8 := by rw [e7, parP_len]
  refine ⟨by omega, fun s8 hs8 => ?_⟩
  have l8 : s8.length = 8 := by rw [hs8, revL_len, l7]
  refine ⟨by omega, fun s9 hs9 => ?_⟩
  unfold encL encE
  rw [h, hs9, hs8, e7]
  exact ⟨rfl, rfl⟩
theorem encR_ok : PcOk Tryz.prog 46 enc := by
  refine pcOf_runS (fun _ => EBD_ok) Tryz.func46 rfl (by kernel_rfl) (fun x hw => enc_wf x)
    (fun x => [.draw 3 (.take 2 (.take 3 (.br 0 (.br 1 (.take 4 (.take 5 .fin)) .stop) .stop))) [], .lp 5 Nat [6] (fun i => [.str (parR x.1 ++ List.replicate i 0)]) (fun i => (parR x.1).length + i ≤ 8) fun i => 8 - i])
    (fun _ => Nat.le_of_ble_eq_true rfl) (fun ⟨d, ()⟩ hp hw => ?_)
  refine vc_of (q :=
      ∀ (v1:Int), v1=(↑(List.length d):Int)→∀ (v2:Int), v2=(↑(List.length d):Int)→∀ (t1:Bool), (t1=if decide (v1 < (1:Int))=true then true else decide (v2 > (223:Int)))→(t1=true→[]=encL d∧(2:Int)=encE d)∧(t1=false→List.length d≤1000000∧∀ (s1:List UInt8), s1=revL d→((0:Int)≤(8:Int)∧(8:Int)≤(8:Int)∧(8:Int)*(↑(1:Nat):Int)≤(140737488355328:Int)∧(8:Int)≤(9223372036854775807:Int)∧∀ (b1:Nat), (8≤Int.toNat
      (8:Int)∧(∀ (k1:Nat), k1 < Int.toNat (8:Int)→true=true)∧(b1=b1∧0=0)∧∀ (s2:List UInt8), s2=Byt.of (fun (k:Nat) ↦ (0:Int)) (Int.toNat (8:Int))→List.length s2+List.length s1≤9223372036854775807∧∀ (s3:List UInt8), s3=s2++s1→∀ (s4:List UInt8), s4=gpoly→List.length s3≤3000∧List.length s4≤3000∧∀ (s5:List UInt8), s5=quoL s3 s4→∀ (s6:List UInt8), s6=resL s3 s4→∀ (v3:Int), (v3=if tlen s4=0 then (2:Int) else
      (0:Int))→(∃ (x1:Nat), s6=parR d++List.replicate x1 0∧Nat.le (List.length (parR d)+x1) 8)∧∀ (b2:Nat), List.length (parR d)+b2≤8→∀ (v4:Int), v4=(↑(List.length (parR d++List.replicate b2 0)):Int)→(decide (v4 < (8:Int))=true→List.length (parR d++List.replicate b2 0)+List.length [0]≤9223372036854775807∧∀ (s7:List UInt8), s7=parR d++List.replicate b2 0++[0]→∃ (x2:Nat), s7=parR d++List.replicate x2
      0∧List.length (parR d)+x2≤8∧8 - x2 < 8 - b2)∧(decide (v4 < (8:Int))=false→List.length (parR d++List.replicate b2 0)≤1000000∧∀ (s8:List UInt8), s8=revL (parR d++List.replicate b2 0)→List.length d+List.length s8≤9223372036854775807∧∀ (s9:List UInt8), s9=d++s8→s9=encL d∧(0:Int)=encE d))∧True)∧True)) (by kernel_rfl) ?_
  try simp only [eq_self, true_and, and_true, Nat.le_refl, implies_true, forall_const, Bool.false_eq_true, Bool.true_eq_false, reduceCtorEq, false_imp_iff, true_imp_iff, Int.toNat_zero, Int.toNat_natCast, Nat.zero_lt_one, Int.le_refl, allGet]
  intro v1 h1 v2 h2 t1 ht1
  have hb : t1 = encB d := by rw [ht1, h1, h2]; exact encB_eq d
  subst hb
  refine ⟨fun h => by unfold encL encE; rw [if_pos h, if_pos h]; exact ⟨rfl, rfl⟩, fun h => ?_⟩
  have hd := encB_len h
  refine ⟨by omega, fun s1 hs1 => ⟨by omega, by omega, by omega, by decide, fun s2 hs2 => ?_⟩⟩
  have l1 : s1.length = d.length := by rw [hs1, revL_len]
  have e2 : s2 = [0, 0, 0, 0, 0, 0, 0, 0] := by rw [hs2]; rfl
  have l2 : s2.length = 8 := by rw [e2]; rfl
  refine ⟨by omega, fun s3 hs3 s4 hs4 => ?_⟩
  have l3 : s3.length = 8 + d.length := by rw [hs3, List.length_append]; omega
  have l4 : s4.length = 9 := by rw [hs4, gpoly_eq]; rfl
  refine ⟨by omega, by omega, fun s5 hs5 s6 hs6 v3 hv3 => ?_⟩
  have e6 : s6 = parR d := by rw [hs6, hs3, hs4, hs1, e2]; rfl
  have l6 := parR_len d
  refine ⟨⟨0, by rw [e6]; simp, by show (parR d).length + 0 ≤ 8; omega⟩, fun i hi v4 hv4 => ?_⟩
  have li : (parR d ++ List.replicate i 0).length = (parR d).length + i := by simp
  have l0 : ([0] : List UInt8).length = 1 := rfl
  refine ⟨fun hlt => ?_, fun hge => ?_⟩
  · have hlt := of_decide_eq_true hlt
    exact ⟨by omega, fun s7 hs7 => ⟨i + 1, by rw [hs7, List.append_assoc, ← List.replicate_succ'], by omega, by omega⟩⟩
  · have hge := of_decide_eq_false hge
    have ei : i = 8 - (parR d).length := by omega
    have eP : parR d ++ List.replicate i 0 = parP d := by rw [ei, parP_eq]
    refine ⟨by omega, fun s8 hs8 => ?_⟩
    have l8 : s8.length = 8 := by rw [hs8, revL_len]; omega
    refine ⟨by omega, fun s9 hs9 => ?_⟩
    unfold encL encE
    rw [h, hs9, hs8, eP]
    exact ⟨rfl, rfl⟩
end Galois
