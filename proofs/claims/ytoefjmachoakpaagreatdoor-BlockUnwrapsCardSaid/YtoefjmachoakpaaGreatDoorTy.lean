/-
  OWN WORK, written by a program of ours (gen_ty.py): the types of this seat, as the engine wants them.
-/
import Derived.Test.YtoefjmachoakpaaGreatDoorEngK
namespace Eng
open Go Go.Proofs
set_option linter.unusedVariables false
set_option linter.unusedSimpArgs false
set_option maxRecDepth 100000

def tenv : TypeId → Option TI
  | 2 => some ⟨1, 8, .int .i64, .int .i64 0⟩
  | 3 => some ⟨1, 8, .int .i64, .int .i64 0⟩
  | 4 => some ⟨1, 1, .bool, .bool false⟩
  | 5 => some ⟨1, 1, .int .u8, .int .u8 0⟩
  | 6 => some ⟨1, 1, .int .u8, .int .u8 0⟩
  | 7 => some ⟨4, 24, .struct [(0, 2), (1, 3), (2, 4), (3, 6)], .agg [.int .i64 0, .int .i64 0, .bool false, .int .u8 0]⟩
  | 8 => some ⟨4, 24, .struct [(0, 2), (1, 3), (2, 4), (3, 6)], .agg [.int .i64 0, .int .i64 0, .bool false, .int .u8 0]⟩
  | 9 => some ⟨1, 16, .str, .str []⟩
  | 10 => some ⟨1, 16, .str, .str []⟩
  | 11 => some ⟨1, 16, .str, .str []⟩
  | 12 => some ⟨1, 8, .int .u64, .int .u64 0⟩
  | 13 => some ⟨2, 24, .struct [(0, 9), (1, 12)], .agg [.str [], .int .u64 0]⟩
  | 14 => some ⟨2, 24, .struct [(0, 9), (1, 12)], .agg [.str [], .int .u64 0]⟩
  | 15 => some ⟨1, 8, .ptr 148, .val (.pointer none)⟩
  | 16 => some ⟨1, 8, .ptr 151, .val (.pointer none)⟩
  | 17 => some ⟨1, 8, .ptr 160, .val (.pointer none)⟩
  | 18 => some ⟨1, 8, .struct [(0, 17)], .agg [.val (.pointer none)]⟩
  | 19 => some ⟨1, 8, .struct [(0, 17)], .agg [.val (.pointer none)]⟩
  | 20 => some ⟨1, 16, .iface, .val .nilIface⟩
  | 21 => some ⟨1, 4, .int .i32, .int .i32 0⟩
  | 22 => some ⟨1, 24, .slice 3, nilSlice⟩
  | 25 => some ⟨1, 8, .int .i64, .int .i64 0⟩
  | 30 => some ⟨1, 24, .slice 57, nilSlice⟩
  | 52 => some ⟨1, 24, .slice 9, nilSlice⟩
  | 54 => some ⟨1, 24, .slice 5, nilSlice⟩
  | 56 => some ⟨3, 16, .struct [(0, 3), (1, 5), (2, 4)], .agg [.int .i64 0, .int .u8 0, .bool false]⟩
  | 57 => some ⟨3, 16, .struct [(0, 3), (1, 5), (2, 4)], .agg [.int .i64 0, .int .u8 0, .bool false]⟩
  | 58 => some ⟨1, 24, .slice 54, nilSlice⟩
  | 61 => some ⟨8, 8, .arr 8 5, .arr 8 1 fun _ => .int .u8 0⟩
  | 69 => some ⟨1, 8, .int .u64, .int .u64 0⟩
  | 72 => some ⟨1, 24, .slice 74, nilSlice⟩
  | 73 => some ⟨9, 9, .arr 9 5, .arr 9 1 fun _ => .int .u8 0⟩
  | 74 => some ⟨9, 9, .arr 9 5, .arr 9 1 fun _ => .int .u8 0⟩
  | 77 => some ⟨1, 24, .slice 22, nilSlice⟩
  | 86 => some ⟨1, 24, .slice 5, nilSlice⟩
  | 92 => some ⟨1, 8, .int .i64, .int .i64 0⟩
  | 101 => some ⟨1, 4, .int .u32, .int .u32 0⟩
  | 103 => some ⟨1, 8, .int .u64, .int .u64 0⟩
  | 104 => some ⟨0, 0, .struct [], .agg []⟩
  | 105 => some ⟨0, 0, .struct [], .agg []⟩
  | 109 => some ⟨1, 8, .ptr 114, .val (.pointer none)⟩
  | 111 => some ⟨255, 255, .arr 255 5, .arr 255 1 fun _ => .int .u8 0⟩
  | 112 => some ⟨256, 2048, .arr 256 3, .arr 256 1 fun _ => .int .i64 0⟩
  | 113 => some ⟨511, 2304, .struct [(0, 111), (255, 112)], .agg [.arr 255 1 fun _ => .int .u8 0, .arr 256 1 fun _ => .int .i64 0]⟩
  | 114 => some ⟨511, 2304, .struct [(0, 111), (255, 112)], .agg [.arr 255 1 fun _ => .int .u8 0, .arr 256 1 fun _ => .int .i64 0]⟩
  | 115 => some ⟨1, 8, .int .u64, .int .u64 0⟩
  | 119 => some ⟨1, 8, .ptr 3, .val (.pointer none)⟩
  | 125 => some ⟨256, 256, .arr 256 4, .arr 256 1 fun _ => .bool false⟩
  | 126 => some ⟨256, 256, .arr 256 4, .arr 256 1 fun _ => .bool false⟩
  | 130 => some ⟨1, 8, .ptr 126, .val (.pointer none)⟩
  | 131 => some ⟨1, 8, .ptr 115, .val (.pointer none)⟩
  | 134 => some ⟨1, 8, .ptr 74, .val (.pointer none)⟩
  | 143 => some ⟨256, 256, .arr 256 5, .arr 256 1 fun _ => .int .u8 0⟩
  | 144 => some ⟨2, 2, .struct [(0, 5), (1, 5)], .agg [.int .u8 0, .int .u8 0]⟩
  | 145 => some ⟨2, 2, .struct [(0, 5), (1, 5)], .agg [.int .u8 0, .int .u8 0]⟩
  | 146 => some ⟨32, 32, .arr 16 145, .arr 16 2 fun _ => .agg [.int .u8 0, .int .u8 0]⟩
  | 147 => some ⟨4, 40, .struct [(0, 17), (1, 17), (2, 17), (3, 9)], .agg [.val (.pointer none), .val (.pointer none), .val (.pointer none), .str []]⟩
  | 148 => some ⟨4, 40, .struct [(0, 17), (1, 17), (2, 17), (3, 9)], .agg [.val (.pointer none), .val (.pointer none), .val (.pointer none), .str []]⟩
  | 149 => some ⟨0, 0, .arr 0 16, .arr 0 1 fun _ => .val (.pointer none)⟩
  | 153 => some ⟨1, 1, .int .u8, .int .u8 0⟩
  | 154 => some ⟨1, 1, .int .u8, .int .u8 0⟩
  | 156 => some ⟨1, 8, .ptr 5, .val (.pointer none)⟩
  | 157 => some ⟨1, 4, .int .i32, .int .i32 0⟩
  | 158 => some ⟨1, 4, .int .i32, .int .i32 0⟩
  | _ => none
theorem ty2 : ∃ i d, TOk Tryz.prog 2 ⟨1, 8, .int .i64, .int .i64 0⟩ i d := by
  refine ⟨Tryz.t2, _, ⟨by kernel_rfl, Tryz.underlying2, by kernel_rfl, by kernel_rfl, by kernel_rfl, ?_, by kernel_rfl, by kernel_rfl, ?_⟩⟩
  · simp [SV.wf, nilSlice]
  · rfl
theorem ty3 : ∃ i d, TOk Tryz.prog 3 ⟨1, 8, .int .i64, .int .i64 0⟩ i d := by
  refine ⟨Tryz.t3, _, ⟨by kernel_rfl, Tryz.underlying3, by kernel_rfl, by kernel_rfl, by kernel_rfl, ?_, by kernel_rfl, by kernel_rfl, ?_⟩⟩
  · simp [SV.wf, nilSlice]
  · rfl
theorem ty4 : ∃ i d, TOk Tryz.prog 4 ⟨1, 1, .bool, .bool false⟩ i d := by
  refine ⟨Tryz.t4, _, ⟨by kernel_rfl, Tryz.underlying4, by kernel_rfl, by kernel_rfl, by kernel_rfl, ?_, by kernel_rfl, by kernel_rfl, ?_⟩⟩
  · simp [SV.wf, nilSlice]
  · rfl
theorem ty5 : ∃ i d, TOk Tryz.prog 5 ⟨1, 1, .int .u8, .int .u8 0⟩ i d := by
  refine ⟨Tryz.t5, _, ⟨by kernel_rfl, Tryz.underlying5, by kernel_rfl, by kernel_rfl, by kernel_rfl, ?_, by kernel_rfl, by kernel_rfl, ?_⟩⟩
  · simp [SV.wf, nilSlice]
  · rfl
theorem ty6 : ∃ i d, TOk Tryz.prog 6 ⟨1, 1, .int .u8, .int .u8 0⟩ i d := by
  refine ⟨Tryz.t6, _, ⟨by kernel_rfl, Tryz.underlying6, by kernel_rfl, by kernel_rfl, by kernel_rfl, ?_, by kernel_rfl, by kernel_rfl, ?_⟩⟩
  · simp [SV.wf, nilSlice]
  · rfl
theorem ty7 : ∃ i d, TOk Tryz.prog 7 ⟨4, 24, .struct [(0, 2), (1, 3), (2, 4), (3, 6)], .agg [.int .i64 0, .int .i64 0, .bool false, .int .u8 0]⟩ i d := by
  refine ⟨Tryz.t7, _, ⟨by kernel_rfl, Tryz.underlying7, by kernel_rfl, by kernel_rfl, by kernel_rfl, ?_, by kernel_rfl, by kernel_rfl, ?_⟩⟩
  · simp [SV.wf, SV.wfA, SV.nt, nilSlice, SV.sz, SV.sz.szL]
  · exact kok_struct _ _ _ rfl (by kernel_rfl) (by kernel_rfl)
theorem ty8 : ∃ i d, TOk Tryz.prog 8 ⟨4, 24, .struct [(0, 2), (1, 3), (2, 4), (3, 6)], .agg [.int .i64 0, .int .i64 0, .bool false, .int .u8 0]⟩ i d := by
  refine ⟨Tryz.t8, _, ⟨by kernel_rfl, Tryz.underlying8, by kernel_rfl, by kernel_rfl, by kernel_rfl, ?_, by kernel_rfl, by kernel_rfl, ?_⟩⟩
  · simp [SV.wf, SV.wfA, SV.nt, nilSlice, SV.sz, SV.sz.szL]
  · exact kok_struct _ _ _ rfl (by kernel_rfl) (by kernel_rfl)
theorem ty9 : ∃ i d, TOk Tryz.prog 9 ⟨1, 16, .str, .str []⟩ i d := by
  refine ⟨Tryz.t9, _, ⟨by kernel_rfl, Tryz.underlying9, by kernel_rfl, by kernel_rfl, by kernel_rfl, ?_, by kernel_rfl, by kernel_rfl, ?_⟩⟩
  · simp [SV.wf, nilSlice]
  · rfl
theorem ty10 : ∃ i d, TOk Tryz.prog 10 ⟨1, 16, .str, .str []⟩ i d := by
  refine ⟨Tryz.t10, _, ⟨by kernel_rfl, Tryz.underlying10, by kernel_rfl, by kernel_rfl, by kernel_rfl, ?_, by kernel_rfl, by kernel_rfl, ?_⟩⟩
  · simp [SV.wf, nilSlice]
  · rfl
theorem ty11 : ∃ i d, TOk Tryz.prog 11 ⟨1, 16, .str, .str []⟩ i d := by
  refine ⟨Tryz.t11, _, ⟨by kernel_rfl, Tryz.underlying11, by kernel_rfl, by kernel_rfl, by kernel_rfl, ?_, by kernel_rfl, by kernel_rfl, ?_⟩⟩
  · simp [SV.wf, nilSlice]
  · rfl
theorem ty12 : ∃ i d, TOk Tryz.prog 12 ⟨1, 8, .int .u64, .int .u64 0⟩ i d := by
  refine ⟨Tryz.t12, _, ⟨by kernel_rfl, Tryz.underlying12, by kernel_rfl, by kernel_rfl, by kernel_rfl, ?_, by kernel_rfl, by kernel_rfl, ?_⟩⟩
  · simp [SV.wf, nilSlice]
  · rfl
theorem ty13 : ∃ i d, TOk Tryz.prog 13 ⟨2, 24, .struct [(0, 9), (1, 12)], .agg [.str [], .int .u64 0]⟩ i d := by
  refine ⟨Tryz.t13, _, ⟨by kernel_rfl, Tryz.underlying13, by kernel_rfl, by kernel_rfl, by kernel_rfl, ?_, by kernel_rfl, by kernel_rfl, ?_⟩⟩
  · simp [SV.wf, SV.wfA, SV.nt, nilSlice, SV.sz, SV.sz.szL]
  · exact kok_struct _ _ _ rfl (by kernel_rfl) (by kernel_rfl)
theorem ty14 : ∃ i d, TOk Tryz.prog 14 ⟨2, 24, .struct [(0, 9), (1, 12)], .agg [.str [], .int .u64 0]⟩ i d := by
  refine ⟨Tryz.t14, _, ⟨by kernel_rfl, Tryz.underlying14, by kernel_rfl, by kernel_rfl, by kernel_rfl, ?_, by kernel_rfl, by kernel_rfl, ?_⟩⟩
  · simp [SV.wf, SV.wfA, SV.nt, nilSlice, SV.sz, SV.sz.szL]
  · exact kok_struct _ _ _ rfl (by kernel_rfl) (by kernel_rfl)
theorem ty15 : ∃ i d, TOk Tryz.prog 15 ⟨1, 8, .ptr 148, .val (.pointer none)⟩ i d := by
  refine ⟨Tryz.t15, _, ⟨by kernel_rfl, Tryz.underlying15, by kernel_rfl, by kernel_rfl, by kernel_rfl, ?_, by kernel_rfl, by kernel_rfl, ?_⟩⟩
  · simp [SV.wf, nilSlice]
  · rfl
theorem ty16 : ∃ i d, TOk Tryz.prog 16 ⟨1, 8, .ptr 151, .val (.pointer none)⟩ i d := by
  refine ⟨Tryz.t16, _, ⟨by kernel_rfl, Tryz.underlying16, by kernel_rfl, by kernel_rfl, by kernel_rfl, ?_, by kernel_rfl, by kernel_rfl, ?_⟩⟩
  · simp [SV.wf, nilSlice]
  · rfl
theorem ty17 : ∃ i d, TOk Tryz.prog 17 ⟨1, 8, .ptr 160, .val (.pointer none)⟩ i d := by
  refine ⟨Tryz.t17, _, ⟨by kernel_rfl, Tryz.underlying17, by kernel_rfl, by kernel_rfl, by kernel_rfl, ?_, by kernel_rfl, by kernel_rfl, ?_⟩⟩
  · simp [SV.wf, nilSlice]
  · rfl
theorem ty18 : ∃ i d, TOk Tryz.prog 18 ⟨1, 8, .struct [(0, 17)], .agg [.val (.pointer none)]⟩ i d := by
  refine ⟨Tryz.t18, _, ⟨by kernel_rfl, Tryz.underlying18, by kernel_rfl, by kernel_rfl, by kernel_rfl, ?_, by kernel_rfl, by kernel_rfl, ?_⟩⟩
  · simp [SV.wf, SV.wfA, SV.nt, nilSlice, SV.sz, SV.sz.szL]
  · exact kok_struct _ _ _ rfl (by kernel_rfl) (by kernel_rfl)
theorem ty19 : ∃ i d, TOk Tryz.prog 19 ⟨1, 8, .struct [(0, 17)], .agg [.val (.pointer none)]⟩ i d := by
  refine ⟨Tryz.t19, _, ⟨by kernel_rfl, Tryz.underlying19, by kernel_rfl, by kernel_rfl, by kernel_rfl, ?_, by kernel_rfl, by kernel_rfl, ?_⟩⟩
  · simp [SV.wf, SV.wfA, SV.nt, nilSlice, SV.sz, SV.sz.szL]
  · exact kok_struct _ _ _ rfl (by kernel_rfl) (by kernel_rfl)
theorem ty20 : ∃ i d, TOk Tryz.prog 20 ⟨1, 16, .iface, .val .nilIface⟩ i d := by
  refine ⟨Tryz.t20, _, ⟨by kernel_rfl, Tryz.underlying20, by kernel_rfl, by kernel_rfl, by kernel_rfl, ?_, by kernel_rfl, by kernel_rfl, ?_⟩⟩
  · simp [SV.wf, nilSlice]
  · exact ⟨_, rfl⟩
theorem ty21 : ∃ i d, TOk Tryz.prog 21 ⟨1, 4, .int .i32, .int .i32 0⟩ i d := by
  refine ⟨Tryz.t21, _, ⟨by kernel_rfl, Tryz.underlying21, by kernel_rfl, by kernel_rfl, by kernel_rfl, ?_, by kernel_rfl, by kernel_rfl, ?_⟩⟩
  · simp [SV.wf, nilSlice]
  · rfl
theorem ty22 : ∃ i d, TOk Tryz.prog 22 ⟨1, 24, .slice 3, nilSlice⟩ i d := by
  refine ⟨Tryz.t22, _, ⟨by kernel_rfl, Tryz.underlying22, by kernel_rfl, by kernel_rfl, by kernel_rfl, ?_, by kernel_rfl, by kernel_rfl, ?_⟩⟩
  · simp [SV.wf, nilSlice]
  · rfl
theorem ty25 : ∃ i d, TOk Tryz.prog 25 ⟨1, 8, .int .i64, .int .i64 0⟩ i d := by
  refine ⟨Tryz.t25, _, ⟨by kernel_rfl, Tryz.underlying25, by kernel_rfl, by kernel_rfl, by kernel_rfl, ?_, by kernel_rfl, by kernel_rfl, ?_⟩⟩
  · simp [SV.wf, nilSlice]
  · rfl
theorem ty30 : ∃ i d, TOk Tryz.prog 30 ⟨1, 24, .slice 57, nilSlice⟩ i d := by
  refine ⟨Tryz.t30, _, ⟨by kernel_rfl, Tryz.underlying30, by kernel_rfl, by kernel_rfl, by kernel_rfl, ?_, by kernel_rfl, by kernel_rfl, ?_⟩⟩
  · simp [SV.wf, nilSlice]
  · rfl
theorem ty52 : ∃ i d, TOk Tryz.prog 52 ⟨1, 24, .slice 9, nilSlice⟩ i d := by
  refine ⟨Tryz.t52, _, ⟨by kernel_rfl, Tryz.underlying52, by kernel_rfl, by kernel_rfl, by kernel_rfl, ?_, by kernel_rfl, by kernel_rfl, ?_⟩⟩
  · simp [SV.wf, nilSlice]
  · rfl
theorem ty54 : ∃ i d, TOk Tryz.prog 54 ⟨1, 24, .slice 5, nilSlice⟩ i d := by
  refine ⟨Tryz.t54, _, ⟨by kernel_rfl, Tryz.underlying54, by kernel_rfl, by kernel_rfl, by kernel_rfl, ?_, by kernel_rfl, by kernel_rfl, ?_⟩⟩
  · simp [SV.wf, nilSlice]
  · rfl
theorem ty56 : ∃ i d, TOk Tryz.prog 56 ⟨3, 16, .struct [(0, 3), (1, 5), (2, 4)], .agg [.int .i64 0, .int .u8 0, .bool false]⟩ i d := by
  refine ⟨Tryz.t56, _, ⟨by kernel_rfl, Tryz.underlying56, by kernel_rfl, by kernel_rfl, by kernel_rfl, ?_, by kernel_rfl, by kernel_rfl, ?_⟩⟩
  · simp [SV.wf, SV.wfA, SV.nt, nilSlice, SV.sz, SV.sz.szL]
  · exact kok_struct _ _ _ rfl (by kernel_rfl) (by kernel_rfl)
theorem ty57 : ∃ i d, TOk Tryz.prog 57 ⟨3, 16, .struct [(0, 3), (1, 5), (2, 4)], .agg [.int .i64 0, .int .u8 0, .bool false]⟩ i d := by
  refine ⟨Tryz.t57, _, ⟨by kernel_rfl, Tryz.underlying57, by kernel_rfl, by kernel_rfl, by kernel_rfl, ?_, by kernel_rfl, by kernel_rfl, ?_⟩⟩
  · simp [SV.wf, SV.wfA, SV.nt, nilSlice, SV.sz, SV.sz.szL]
  · exact kok_struct _ _ _ rfl (by kernel_rfl) (by kernel_rfl)
theorem ty58 : ∃ i d, TOk Tryz.prog 58 ⟨1, 24, .slice 54, nilSlice⟩ i d := by
  refine ⟨Tryz.t58, _, ⟨by kernel_rfl, Tryz.underlying58, by kernel_rfl, by kernel_rfl, by kernel_rfl, ?_, by kernel_rfl, by kernel_rfl, ?_⟩⟩
  · simp [SV.wf, nilSlice]
  · rfl
theorem ty61 : ∃ i d, TOk Tryz.prog 61 ⟨8, 8, .arr 8 5, .arr 8 1 fun _ => .int .u8 0⟩ i d := by
  refine ⟨Tryz.t61, _, ⟨by kernel_rfl, Tryz.underlying61, by kernel_rfl, by kernel_rfl, by kernel_rfl, ?_, by kernel_rfl, by kernel_rfl, ?_⟩⟩
  · simp [SV.wf, SV.wfA, SV.nt, nilSlice, SV.sz, SV.sz.szL]
  · rfl
theorem ty69 : ∃ i d, TOk Tryz.prog 69 ⟨1, 8, .int .u64, .int .u64 0⟩ i d := by
  refine ⟨Tryz.t69, _, ⟨by kernel_rfl, Tryz.underlying69, by kernel_rfl, by kernel_rfl, by kernel_rfl, ?_, by kernel_rfl, by kernel_rfl, ?_⟩⟩
  · simp [SV.wf, nilSlice]
  · rfl
theorem ty72 : ∃ i d, TOk Tryz.prog 72 ⟨1, 24, .slice 74, nilSlice⟩ i d := by
  refine ⟨Tryz.t72, _, ⟨by kernel_rfl, Tryz.underlying72, by kernel_rfl, by kernel_rfl, by kernel_rfl, ?_, by kernel_rfl, by kernel_rfl, ?_⟩⟩
  · simp [SV.wf, nilSlice]
  · rfl
theorem ty73 : ∃ i d, TOk Tryz.prog 73 ⟨9, 9, .arr 9 5, .arr 9 1 fun _ => .int .u8 0⟩ i d := by
  refine ⟨Tryz.t73, _, ⟨by kernel_rfl, Tryz.underlying73, by kernel_rfl, by kernel_rfl, by kernel_rfl, ?_, by kernel_rfl, by kernel_rfl, ?_⟩⟩
  · simp [SV.wf, SV.wfA, SV.nt, nilSlice, SV.sz, SV.sz.szL]
  · rfl
theorem ty74 : ∃ i d, TOk Tryz.prog 74 ⟨9, 9, .arr 9 5, .arr 9 1 fun _ => .int .u8 0⟩ i d := by
  refine ⟨Tryz.t74, _, ⟨by kernel_rfl, Tryz.underlying74, by kernel_rfl, by kernel_rfl, by kernel_rfl, ?_, by kernel_rfl, by kernel_rfl, ?_⟩⟩
  · simp [SV.wf, SV.wfA, SV.nt, nilSlice, SV.sz, SV.sz.szL]
  · rfl
theorem ty77 : ∃ i d, TOk Tryz.prog 77 ⟨1, 24, .slice 22, nilSlice⟩ i d := by
  refine ⟨Tryz.t77, _, ⟨by kernel_rfl, Tryz.underlying77, by kernel_rfl, by kernel_rfl, by kernel_rfl, ?_, by kernel_rfl, by kernel_rfl, ?_⟩⟩
  · simp [SV.wf, nilSlice]
  · rfl
theorem ty86 : ∃ i d, TOk Tryz.prog 86 ⟨1, 24, .slice 5, nilSlice⟩ i d := by
  refine ⟨Tryz.t86, _, ⟨by kernel_rfl, Tryz.underlying86, by kernel_rfl, by kernel_rfl, by kernel_rfl, ?_, by kernel_rfl, by kernel_rfl, ?_⟩⟩
  · simp [SV.wf, nilSlice]
  · rfl
theorem ty92 : ∃ i d, TOk Tryz.prog 92 ⟨1, 8, .int .i64, .int .i64 0⟩ i d := by
  refine ⟨Tryz.t92, _, ⟨by kernel_rfl, Tryz.underlying92, by kernel_rfl, by kernel_rfl, by kernel_rfl, ?_, by kernel_rfl, by kernel_rfl, ?_⟩⟩
  · simp [SV.wf, nilSlice]
  · rfl
theorem ty101 : ∃ i d, TOk Tryz.prog 101 ⟨1, 4, .int .u32, .int .u32 0⟩ i d := by
  refine ⟨Tryz.t101, _, ⟨by kernel_rfl, Tryz.underlying101, by kernel_rfl, by kernel_rfl, by kernel_rfl, ?_, by kernel_rfl, by kernel_rfl, ?_⟩⟩
  · simp [SV.wf, nilSlice]
  · rfl
theorem ty103 : ∃ i d, TOk Tryz.prog 103 ⟨1, 8, .int .u64, .int .u64 0⟩ i d := by
  refine ⟨Tryz.t103, _, ⟨by kernel_rfl, Tryz.underlying103, by kernel_rfl, by kernel_rfl, by kernel_rfl, ?_, by kernel_rfl, by kernel_rfl, ?_⟩⟩
  · simp [SV.wf, nilSlice]
  · rfl
theorem ty104 : ∃ i d, TOk Tryz.prog 104 ⟨0, 0, .struct [], .agg []⟩ i d := by
  refine ⟨Tryz.t104, _, ⟨by kernel_rfl, Tryz.underlying104, by kernel_rfl, by kernel_rfl, by kernel_rfl, ?_, by kernel_rfl, by kernel_rfl, ?_⟩⟩
  · simp [SV.wf, SV.wfA, SV.nt, nilSlice, SV.sz, SV.sz.szL]
  · exact kok_struct _ _ _ rfl (by kernel_rfl) (by kernel_rfl)
theorem ty105 : ∃ i d, TOk Tryz.prog 105 ⟨0, 0, .struct [], .agg []⟩ i d := by
  refine ⟨Tryz.t105, _, ⟨by kernel_rfl, Tryz.underlying105, by kernel_rfl, by kernel_rfl, by kernel_rfl, ?_, by kernel_rfl, by kernel_rfl, ?_⟩⟩
  · simp [SV.wf, SV.wfA, SV.nt, nilSlice, SV.sz, SV.sz.szL]
  · exact kok_struct _ _ _ rfl (by kernel_rfl) (by kernel_rfl)
theorem ty109 : ∃ i d, TOk Tryz.prog 109 ⟨1, 8, .ptr 114, .val (.pointer none)⟩ i d := by
  refine ⟨Tryz.t109, _, ⟨by kernel_rfl, Tryz.underlying109, by kernel_rfl, by kernel_rfl, by kernel_rfl, ?_, by kernel_rfl, by kernel_rfl, ?_⟩⟩
  · simp [SV.wf, nilSlice]
  · rfl
theorem ty111 : ∃ i d, TOk Tryz.prog 111 ⟨255, 255, .arr 255 5, .arr 255 1 fun _ => .int .u8 0⟩ i d := by
  refine ⟨Tryz.t111, _, ⟨by kernel_rfl, Tryz.underlying111, by kernel_rfl, by kernel_rfl, by kernel_rfl, ?_, by kernel_rfl, by kernel_rfl, ?_⟩⟩
  · simp [SV.wf, SV.wfA, SV.nt, nilSlice, SV.sz, SV.sz.szL]
  · rfl
theorem ty112 : ∃ i d, TOk Tryz.prog 112 ⟨256, 2048, .arr 256 3, .arr 256 1 fun _ => .int .i64 0⟩ i d := by
  refine ⟨Tryz.t112, _, ⟨by kernel_rfl, Tryz.underlying112, by kernel_rfl, by kernel_rfl, by kernel_rfl, ?_, by kernel_rfl, by kernel_rfl, ?_⟩⟩
  · simp [SV.wf, SV.wfA, SV.nt, nilSlice, SV.sz, SV.sz.szL]
  · rfl
theorem ty113 : ∃ i d, TOk Tryz.prog 113 ⟨511, 2304, .struct [(0, 111), (255, 112)], .agg [.arr 255 1 fun _ => .int .u8 0, .arr 256 1 fun _ => .int .i64 0]⟩ i d := by
  refine ⟨Tryz.t113, _, ⟨by kernel_rfl, Tryz.underlying113, by kernel_rfl, by kernel_rfl, by kernel_rfl, ?_, by kernel_rfl, by kernel_rfl, ?_⟩⟩
  · simp [SV.wf, SV.wfA, SV.nt, nilSlice, SV.sz, SV.sz.szL]
  · exact kok_struct _ _ _ rfl (by kernel_rfl) (by kernel_rfl)
theorem ty114 : ∃ i d, TOk Tryz.prog 114 ⟨511, 2304, .struct [(0, 111), (255, 112)], .agg [.arr 255 1 fun _ => .int .u8 0, .arr 256 1 fun _ => .int .i64 0]⟩ i d := by
  refine ⟨Tryz.t114, _, ⟨by kernel_rfl, Tryz.underlying114, by kernel_rfl, by kernel_rfl, by kernel_rfl, ?_, by kernel_rfl, by kernel_rfl, ?_⟩⟩
  · simp [SV.wf, SV.wfA, SV.nt, nilSlice, SV.sz, SV.sz.szL]
  · exact kok_struct _ _ _ rfl (by kernel_rfl) (by kernel_rfl)
theorem ty115 : ∃ i d, TOk Tryz.prog 115 ⟨1, 8, .int .u64, .int .u64 0⟩ i d := by
  refine ⟨Tryz.t115, _, ⟨by kernel_rfl, Tryz.underlying115, by kernel_rfl, by kernel_rfl, by kernel_rfl, ?_, by kernel_rfl, by kernel_rfl, ?_⟩⟩
  · simp [SV.wf, nilSlice]
  · rfl
theorem ty119 : ∃ i d, TOk Tryz.prog 119 ⟨1, 8, .ptr 3, .val (.pointer none)⟩ i d := by
  refine ⟨Tryz.t119, _, ⟨by kernel_rfl, Tryz.underlying119, by kernel_rfl, by kernel_rfl, by kernel_rfl, ?_, by kernel_rfl, by kernel_rfl, ?_⟩⟩
  · simp [SV.wf, nilSlice]
  · rfl
theorem ty125 : ∃ i d, TOk Tryz.prog 125 ⟨256, 256, .arr 256 4, .arr 256 1 fun _ => .bool false⟩ i d := by
  refine ⟨Tryz.t125, _, ⟨by kernel_rfl, Tryz.underlying125, by kernel_rfl, by kernel_rfl, by kernel_rfl, ?_, by kernel_rfl, by kernel_rfl, ?_⟩⟩
  · simp [SV.wf, SV.wfA, SV.nt, nilSlice, SV.sz, SV.sz.szL]
  · rfl
theorem ty126 : ∃ i d, TOk Tryz.prog 126 ⟨256, 256, .arr 256 4, .arr 256 1 fun _ => .bool false⟩ i d := by
  refine ⟨Tryz.t126, _, ⟨by kernel_rfl, Tryz.underlying126, by kernel_rfl, by kernel_rfl, by kernel_rfl, ?_, by kernel_rfl, by kernel_rfl, ?_⟩⟩
  · simp [SV.wf, SV.wfA, SV.nt, nilSlice, SV.sz, SV.sz.szL]
  · rfl
theorem ty130 : ∃ i d, TOk Tryz.prog 130 ⟨1, 8, .ptr 126, .val (.pointer none)⟩ i d := by
  refine ⟨Tryz.t130, _, ⟨by kernel_rfl, Tryz.underlying130, by kernel_rfl, by kernel_rfl, by kernel_rfl, ?_, by kernel_rfl, by kernel_rfl, ?_⟩⟩
  · simp [SV.wf, nilSlice]
  · rfl
theorem ty131 : ∃ i d, TOk Tryz.prog 131 ⟨1, 8, .ptr 115, .val (.pointer none)⟩ i d := by
  refine ⟨Tryz.t131, _, ⟨by kernel_rfl, Tryz.underlying131, by kernel_rfl, by kernel_rfl, by kernel_rfl, ?_, by kernel_rfl, by kernel_rfl, ?_⟩⟩
  · simp [SV.wf, nilSlice]
  · rfl
theorem ty134 : ∃ i d, TOk Tryz.prog 134 ⟨1, 8, .ptr 74, .val (.pointer none)⟩ i d := by
  refine ⟨Tryz.t134, _, ⟨by kernel_rfl, Tryz.underlying134, by kernel_rfl, by kernel_rfl, by kernel_rfl, ?_, by kernel_rfl, by kernel_rfl, ?_⟩⟩
  · simp [SV.wf, nilSlice]
  · rfl
theorem ty143 : ∃ i d, TOk Tryz.prog 143 ⟨256, 256, .arr 256 5, .arr 256 1 fun _ => .int .u8 0⟩ i d := by
  refine ⟨Tryz.t143, _, ⟨by kernel_rfl, Tryz.underlying143, by kernel_rfl, by kernel_rfl, by kernel_rfl, ?_, by kernel_rfl, by kernel_rfl, ?_⟩⟩
  · simp [SV.wf, SV.wfA, SV.nt, nilSlice, SV.sz, SV.sz.szL]
  · rfl
theorem ty144 : ∃ i d, TOk Tryz.prog 144 ⟨2, 2, .struct [(0, 5), (1, 5)], .agg [.int .u8 0, .int .u8 0]⟩ i d := by
  refine ⟨Tryz.t144, _, ⟨by kernel_rfl, Tryz.underlying144, by kernel_rfl, by kernel_rfl, by kernel_rfl, ?_, by kernel_rfl, by kernel_rfl, ?_⟩⟩
  · simp [SV.wf, SV.wfA, SV.nt, nilSlice, SV.sz, SV.sz.szL]
  · exact kok_struct _ _ _ rfl (by kernel_rfl) (by kernel_rfl)
theorem ty145 : ∃ i d, TOk Tryz.prog 145 ⟨2, 2, .struct [(0, 5), (1, 5)], .agg [.int .u8 0, .int .u8 0]⟩ i d := by
  refine ⟨Tryz.t145, _, ⟨by kernel_rfl, Tryz.underlying145, by kernel_rfl, by kernel_rfl, by kernel_rfl, ?_, by kernel_rfl, by kernel_rfl, ?_⟩⟩
  · simp [SV.wf, SV.wfA, SV.nt, nilSlice, SV.sz, SV.sz.szL]
  · exact kok_struct _ _ _ rfl (by kernel_rfl) (by kernel_rfl)
theorem ty146 : ∃ i d, TOk Tryz.prog 146 ⟨32, 32, .arr 16 145, .arr 16 2 fun _ => .agg [.int .u8 0, .int .u8 0]⟩ i d := by
  refine ⟨Tryz.t146, _, ⟨by kernel_rfl, Tryz.underlying146, by kernel_rfl, by kernel_rfl, by kernel_rfl, ?_, by kernel_rfl, by kernel_rfl, ?_⟩⟩
  · simp [SV.wf, SV.wfA, SV.nt, nilSlice, SV.sz, SV.sz.szL]
  · rfl
theorem ty147 : ∃ i d, TOk Tryz.prog 147 ⟨4, 40, .struct [(0, 17), (1, 17), (2, 17), (3, 9)], .agg [.val (.pointer none), .val (.pointer none), .val (.pointer none), .str []]⟩ i d := by
  refine ⟨Tryz.t147, _, ⟨by kernel_rfl, Tryz.underlying147, by kernel_rfl, by kernel_rfl, by kernel_rfl, ?_, by kernel_rfl, by kernel_rfl, ?_⟩⟩
  · simp [SV.wf, SV.wfA, SV.nt, nilSlice, SV.sz, SV.sz.szL]
  · exact kok_struct _ _ _ rfl (by kernel_rfl) (by kernel_rfl)
theorem ty148 : ∃ i d, TOk Tryz.prog 148 ⟨4, 40, .struct [(0, 17), (1, 17), (2, 17), (3, 9)], .agg [.val (.pointer none), .val (.pointer none), .val (.pointer none), .str []]⟩ i d := by
  refine ⟨Tryz.t148, _, ⟨by kernel_rfl, Tryz.underlying148, by kernel_rfl, by kernel_rfl, by kernel_rfl, ?_, by kernel_rfl, by kernel_rfl, ?_⟩⟩
  · simp [SV.wf, SV.wfA, SV.nt, nilSlice, SV.sz, SV.sz.szL]
  · exact kok_struct _ _ _ rfl (by kernel_rfl) (by kernel_rfl)
theorem ty149 : ∃ i d, TOk Tryz.prog 149 ⟨0, 0, .arr 0 16, .arr 0 1 fun _ => .val (.pointer none)⟩ i d := by
  refine ⟨Tryz.t149, _, ⟨by kernel_rfl, Tryz.underlying149, by kernel_rfl, by kernel_rfl, by kernel_rfl, ?_, by kernel_rfl, by kernel_rfl, ?_⟩⟩
  · simp [SV.wf, SV.wfA, SV.nt, nilSlice, SV.sz, SV.sz.szL]
  · rfl
theorem ty153 : ∃ i d, TOk Tryz.prog 153 ⟨1, 1, .int .u8, .int .u8 0⟩ i d := by
  refine ⟨Tryz.t153, _, ⟨by kernel_rfl, Tryz.underlying153, by kernel_rfl, by kernel_rfl, by kernel_rfl, ?_, by kernel_rfl, by kernel_rfl, ?_⟩⟩
  · simp [SV.wf, nilSlice]
  · rfl
theorem ty154 : ∃ i d, TOk Tryz.prog 154 ⟨1, 1, .int .u8, .int .u8 0⟩ i d := by
  refine ⟨Tryz.t154, _, ⟨by kernel_rfl, Tryz.underlying154, by kernel_rfl, by kernel_rfl, by kernel_rfl, ?_, by kernel_rfl, by kernel_rfl, ?_⟩⟩
  · simp [SV.wf, nilSlice]
  · rfl
theorem ty156 : ∃ i d, TOk Tryz.prog 156 ⟨1, 8, .ptr 5, .val (.pointer none)⟩ i d := by
  refine ⟨Tryz.t156, _, ⟨by kernel_rfl, Tryz.underlying156, by kernel_rfl, by kernel_rfl, by kernel_rfl, ?_, by kernel_rfl, by kernel_rfl, ?_⟩⟩
  · simp [SV.wf, nilSlice]
  · rfl
theorem ty157 : ∃ i d, TOk Tryz.prog 157 ⟨1, 4, .int .i32, .int .i32 0⟩ i d := by
  refine ⟨Tryz.t157, _, ⟨by kernel_rfl, Tryz.underlying157, by kernel_rfl, by kernel_rfl, by kernel_rfl, ?_, by kernel_rfl, by kernel_rfl, ?_⟩⟩
  · simp [SV.wf, nilSlice]
  · rfl
theorem ty158 : ∃ i d, TOk Tryz.prog 158 ⟨1, 4, .int .i32, .int .i32 0⟩ i d := by
  refine ⟨Tryz.t158, _, ⟨by kernel_rfl, Tryz.underlying158, by kernel_rfl, by kernel_rfl, by kernel_rfl, ?_, by kernel_rfl, by kernel_rfl, ?_⟩⟩
  · simp [SV.wf, nilSlice]
  · rfl
theorem tenv_ok : ∀ t ti, tenv t = some ti → ∃ i d, TOk Tryz.prog t ti i d := by
  intro t ti h
  unfold tenv at h
  split at h
  · injection h with h; subst h; exact ty2
  · injection h with h; subst h; exact ty3
  · injection h with h; subst h; exact ty4
  · injection h with h; subst h; exact ty5
  · injection h with h; subst h; exact ty6
  · injection h with h; subst h; exact ty7
  · injection h with h; subst h; exact ty8
  · injection h with h; subst h; exact ty9
  · injection h with h; subst h; exact ty10
  · injection h with h; subst h; exact ty11
  · injection h with h; subst h; exact ty12
  · injection h with h; subst h; exact ty13
  · injection h with h; subst h; exact ty14
  · injection h with h; subst h; exact ty15
  · injection h with h; subst h; exact ty16
  · injection h with h; subst h; exact ty17
  · injection h with h; subst h; exact ty18
  · injection h with h; subst h; exact ty19
  · injection h with h; subst h; exact ty20
  · injection h with h; subst h; exact ty21
  · injection h with h; subst h; exact ty22
  · injection h with h; subst h; exact ty25
  · injection h with h; subst h; exact ty30
  · injection h with h; subst h; exact ty52
  · injection h with h; subst h; exact ty54
  · injection h with h; subst h; exact ty56
  · injection h with h; subst h; exact ty57
  · injection h with h; subst h; exact ty58
  · injection h with h; subst h; exact ty61
  · injection h with h; subst h; exact ty69
  · injection h with h; subst h; exact ty72
  · injection h with h; subst h; exact ty73
  · injection h with h; subst h; exact ty74
  · injection h with h; subst h; exact ty77
  · injection h with h; subst h; exact ty86
  · injection h with h; subst h; exact ty92
  · injection h with h; subst h; exact ty101
  · injection h with h; subst h; exact ty103
  · injection h with h; subst h; exact ty104
  · injection h with h; subst h; exact ty105
  · injection h with h; subst h; exact ty109
  · injection h with h; subst h; exact ty111
  · injection h with h; subst h; exact ty112
  · injection h with h; subst h; exact ty113
  · injection h with h; subst h; exact ty114
  · injection h with h; subst h; exact ty115
  · injection h with h; subst h; exact ty119
  · injection h with h; subst h; exact ty125
  · injection h with h; subst h; exact ty126
  · injection h with h; subst h; exact ty130
  · injection h with h; subst h; exact ty131
  · injection h with h; subst h; exact ty134
  · injection h with h; subst h; exact ty143
  · injection h with h; subst h; exact ty144
  · injection h with h; subst h; exact ty145
  · injection h with h; subst h; exact ty146
  · injection h with h; subst h; exact ty147
  · injection h with h; subst h; exact ty148
  · injection h with h; subst h; exact ty149
  · injection h with h; subst h; exact ty153
  · injection h with h; subst h; exact ty154
  · injection h with h; subst h; exact ty156
  · injection h with h; subst h; exact ty157
  · injection h with h; subst h; exact ty158
  · cases h
end Eng
