/-
  OWN WORK, written by a program of ours (gen_ty.py): the types of this seat, as the engine wants them.
-/
import Derived.Test.YtnibcchhhebfaaaGreatDoorEngK
namespace Eng
open Go Go.Proofs
set_option linter.unusedVariables false
set_option linter.unusedSimpArgs false
set_option maxRecDepth 100000
set_option maxHeartbeats 4000000

def tenv : TypeId → Option TI
  | 1 => some ⟨1, 8, .fn, .val .nilFunc⟩
  | 2 => some ⟨1, 8, .int .i64, .int .i64 0⟩
  | 3 => some ⟨1, 8, .int .i64, .int .i64 0⟩
  | 4 => some ⟨1, 1, .bool, .bool false⟩
  | 5 => some ⟨1, 1, .int .u8, .int .u8 0⟩
  | 6 => some ⟨1, 1, .int .u8, .int .u8 0⟩
  | 7 => some ⟨4, 24, .struct [(0, 2), (1, 3), (2, 4), (3, 6)], .agg [.int .i64 0, .int .i64 0, .bool false, .int .u8 0]⟩
  | 8 => some ⟨4, 24, .struct [(0, 2), (1, 3), (2, 4), (3, 6)], .agg [.int .i64 0, .int .i64 0, .bool false, .int .u8 0]⟩
  | 9 => some ⟨1, 16, .str, .str []⟩
  | 12 => some ⟨1, 8, .int .u64, .int .u64 0⟩
  | 13 => some ⟨2, 24, .struct [(0, 9), (1, 12)], .agg [.str [], .int .u64 0]⟩
  | 14 => some ⟨2, 24, .struct [(0, 9), (1, 12)], .agg [.str [], .int .u64 0]⟩
  | 16 => some ⟨1, 8, .ptr 250, .val (.pointer none)⟩
  | 17 => some ⟨1, 8, .ptr 258, .val (.pointer none)⟩
  | 20 => some ⟨1, 16, .iface, .val .nilIface⟩
  | 23 => some ⟨1, 8, .int .i64, .int .i64 0⟩
  | 29 => some ⟨1, 24, .slice 9, nilSlice⟩
  | 30 => some ⟨1, 24, .slice 3, nilSlice⟩
  | 31 => some ⟨1, 24, .slice 5, nilSlice⟩
  | 32 => some ⟨5, 88, .struct [(0, 3), (1, 3), (2, 29), (3, 30), (4, 31)], .agg [.int .i64 0, .int .i64 0, nilSlice, nilSlice, nilSlice]⟩
  | 36 => some ⟨1, 8, .ptr 69, .val (.pointer none)⟩
  | 44 => some ⟨1, 24, .slice 57, nilSlice⟩
  | 49 => some ⟨7, 72, .struct [(0, 3), (1, 30), (2, 4), (3, 3), (4, 4), (5, 3), (6, 3)], .agg [.int .i64 0, nilSlice, .bool false, .int .i64 0, .bool false, .int .i64 0, .int .i64 0]⟩
  | 50 => some ⟨1, 8, .ptr 49, .val (.pointer none)⟩
  | 57 => some ⟨4, 40, .struct [(0, 9), (1, 4), (2, 3), (3, 3)], .agg [.str [], .bool false, .int .i64 0, .int .i64 0]⟩
  | 59 => some ⟨1, 8, .int .u64, .int .u64 0⟩
  | 60 => some ⟨1, 8, .fn, .val .nilFunc⟩
  | 63 => some ⟨1, 8, .ptr 108, .val (.pointer none)⟩
  | 64 => some ⟨1, 8, .fn, .val .nilFunc⟩
  | 65 => some ⟨1, 8, .fn, .val .nilFunc⟩
  | 67 => some ⟨5, 40, .struct [(0, 60), (1, 60), (2, 60), (3, 64), (4, 65)], .agg [.val .nilFunc, .val .nilFunc, .val .nilFunc, .val .nilFunc, .val .nilFunc]⟩
  | 69 => some ⟨6, 48, .struct [(0, 63), (1, 67)], .agg [.val (.pointer none), .agg [.val .nilFunc, .val .nilFunc, .val .nilFunc, .val .nilFunc, .val .nilFunc]]⟩
  | 70 => some ⟨1, 24, .slice 36, nilSlice⟩
  | 75 => some ⟨1, 8, .fn, .val .nilFunc⟩
  | 77 => some ⟨1, 24, .slice 60, nilSlice⟩
  | 83 => some ⟨1, 24, .slice 87, nilSlice⟩
  | 87 => some ⟨3, 40, .struct [(0, 2), (1, 3), (2, 30)], .agg [.int .i64 0, .int .i64 0, nilSlice]⟩
  | 91 => some ⟨1, 8, .fn, .val .nilFunc⟩
  | 103 => some ⟨1, 8, .ptr 105, .val (.pointer none)⟩
  | 105 => some ⟨2, 16, .struct [(0, 2), (1, 4)], .agg [.int .i64 0, .bool false]⟩
  | 106 => some ⟨1, 8, .fn, .val .nilFunc⟩
  | 108 => some ⟨8, 80, .struct [(0, 103), (1, 3), (2, 30), (3, 2), (4, 4), (5, 3), (6, 3), (7, 106)], .agg [.val (.pointer none), .int .i64 0, nilSlice, .int .i64 0, .bool false, .int .i64 0, .int .i64 0, .val .nilFunc]⟩
  | 110 => some ⟨1, 8, .fn, .val .nilFunc⟩
  | 117 => some ⟨1, 4, .int .u32, .int .u32 0⟩
  | 118 => some ⟨1, 24, .slice 31, nilSlice⟩
  | 121 => some ⟨3, 24, .struct [(0, 3), (1, 3), (2, 3)], .agg [.int .i64 0, .int .i64 0, .int .i64 0]⟩
  | 122 => some ⟨6, 48, .arr 2 121, .arr 2 3 fun _ => .agg [.int .i64 0, .int .i64 0, .int .i64 0]⟩
  | 123 => some ⟨384, 3072, .arr 64 122, .arr 64 6 fun _ => .arr 2 3 fun _ => .agg [.int .i64 0, .int .i64 0, .int .i64 0]⟩
  | 126 => some ⟨1, 8, .fn, .val .nilFunc⟩
  | 128 => some ⟨3, 24, .struct [(0, 3), (1, 3), (2, 3)], .agg [.int .i64 0, .int .i64 0, .int .i64 0]⟩
  | 129 => some ⟨3, 24, .struct [(0, 3), (1, 3), (2, 3)], .agg [.int .i64 0, .int .i64 0, .int .i64 0]⟩
  | 130 => some ⟨6, 48, .arr 2 129, .arr 2 3 fun _ => .agg [.int .i64 0, .int .i64 0, .int .i64 0]⟩
  | 131 => some ⟨384, 3072, .arr 64 130, .arr 64 6 fun _ => .arr 2 3 fun _ => .agg [.int .i64 0, .int .i64 0, .int .i64 0]⟩
  | 136 => some ⟨2, 16, .struct [(0, 3), (1, 3)], .agg [.int .i64 0, .int .i64 0]⟩
  | 137 => some ⟨128, 1024, .arr 64 136, .arr 64 2 fun _ => .agg [.int .i64 0, .int .i64 0]⟩
  | 138 => some ⟨1, 24, .slice 140, nilSlice⟩
  | 139 => some ⟨1, 8, .ptr 140, .val (.pointer none)⟩
  | 140 => some ⟨64, 512, .arr 64 3, .arr 64 1 fun _ => .int .i64 0⟩
  | 142 => some ⟨1, 8, .ptr 137, .val (.pointer none)⟩
  | 143 => some ⟨1, 24, .slice 136, nilSlice⟩
  | 148 => some ⟨256, 256, .arr 256 4, .arr 256 1 fun _ => .bool false⟩
  | 149 => some ⟨256, 256, .arr 256 4, .arr 256 1 fun _ => .bool false⟩
  | 153 => some ⟨1, 8, .ptr 149, .val (.pointer none)⟩
  | 154 => some ⟨32, 32, .arr 32 5, .arr 32 1 fun _ => .int .u8 0⟩
  | 157 => some ⟨1, 24, .slice 159, nilSlice⟩
  | 159 => some ⟨3, 32, .struct [(0, 4), (1, 3), (2, 9)], .agg [.bool false, .int .i64 0, .str []]⟩
  | 165 => some ⟨1, 8, .fn, .val .nilFunc⟩
  | 166 => some ⟨8, 8, .arr 8 5, .arr 8 1 fun _ => .int .u8 0⟩
  | 183 => some ⟨1, 24, .slice 5, nilSlice⟩
  | 184 => some ⟨1, 8, .fn, .val .nilFunc⟩
  | 188 => some ⟨1, 8, .fn, .val .nilFunc⟩
  | 191 => some ⟨1, 24, .slice 193, nilSlice⟩
  | 192 => some ⟨9, 9, .arr 9 5, .arr 9 1 fun _ => .int .u8 0⟩
  | 193 => some ⟨9, 9, .arr 9 5, .arr 9 1 fun _ => .int .u8 0⟩
  | 196 => some ⟨1, 24, .slice 30, nilSlice⟩
  | 200 => some ⟨1, 8, .ptr 205, .val (.pointer none)⟩
  | 202 => some ⟨255, 255, .arr 255 5, .arr 255 1 fun _ => .int .u8 0⟩
  | 203 => some ⟨256, 2048, .arr 256 3, .arr 256 1 fun _ => .int .i64 0⟩
  | 204 => some ⟨511, 2304, .struct [(0, 202), (255, 203)], .agg [.arr 255 1 fun _ => .int .u8 0, .arr 256 1 fun _ => .int .i64 0]⟩
  | 205 => some ⟨511, 2304, .struct [(0, 202), (255, 203)], .agg [.arr 255 1 fun _ => .int .u8 0, .arr 256 1 fun _ => .int .i64 0]⟩
  | 207 => some ⟨1, 8, .int .i64, .int .i64 0⟩
  | 216 => some ⟨1, 8, .int .u64, .int .u64 0⟩
  | 222 => some ⟨0, 0, .struct [], .agg []⟩
  | 223 => some ⟨1, 8, .fn, .val .nilFunc⟩
  | 230 => some ⟨1, 8, .int .u64, .int .u64 0⟩
  | 231 => some ⟨1, 8, .fn, .val .nilFunc⟩
  | 234 => some ⟨1, 8, .ptr 3, .val (.pointer none)⟩
  | 241 => some ⟨1, 8, .ptr 230, .val (.pointer none)⟩
  | 251 => some ⟨1, 1, .int .u8, .int .u8 0⟩
  | 252 => some ⟨1, 1, .int .u8, .int .u8 0⟩
  | 253 => some ⟨1, 8, .fn, .val .nilFunc⟩
  | 254 => some ⟨1, 8, .ptr 5, .val (.pointer none)⟩
  | 255 => some ⟨1, 4, .int .i32, .int .i32 0⟩
  | 256 => some ⟨1, 4, .int .i32, .int .i32 0⟩
  | 258 => some ⟨11, 48, .struct [(0, 12), (1, 12), (2, 117), (3, 251), (4, 5), (5, 5), (6, 252), (7, 253), (8, 254), (9, 255), (10, 256)], .agg [.int .u64 0, .int .u64 0, .int .u32 0, .int .u8 0, .int .u8 0, .int .u8 0, .int .u8 0, .val .nilFunc, .val (.pointer none), .int .i32 0, .int .i32 0]⟩
  | _ => none
theorem ty1 : ∃ i d, TOk Tryz.prog 1 ⟨1, 8, .fn, .val .nilFunc⟩ i d := by
  refine ⟨Tryz.t1, _, ⟨by kernel_rfl, Tryz.underlying1, by kernel_rfl, by kernel_rfl, by kernel_rfl, ?_, by kernel_rfl, by kernel_rfl, ?_⟩⟩
  · simp [SV.wf, nilSlice]
  · exact ⟨_, _, _, rfl⟩
theorem ty2 : ∃ i d, TOk Tryz.prog 2 ⟨1, 8, .int .i64, .int .i64 0⟩ i d := by
  refine ⟨Tryz.t2, _, ⟨by kernel_rfl, Tryz.underlying2, by kernel_rfl, by kernel_rfl, by kernel_rfl, ?_, by kernel_rfl, by kernel_rfl, ?_⟩⟩
  · simp [SV.wf, nilSlice]
  · rfl
theorem ty3 : ∃ i d, TOk Tryz.prog 3 ⟨1, 8, .int .i64, .int .i64 0⟩ i d := by
  refine ⟨Tryz.t3, _, ⟨by kernel_rfl, Tryz.underlying3, by kernel_rfl, by kernel_rfl, by kernel_rfl, ?_, by kernel_rfl, by kernel_rfl, ?_⟩⟩
  · simp [SV.wf, nilSlice]
  · rfl
theorem ty4 : ∃ i d, TOk Tryz.prog 4 ⟨1, 1, .bool, .bool false⟩ i d := by
  refine ⟨Tryz.t4, _, ⟨by kernel_rfl, Tryz.underlying4, by kernel_rfl, by kernel_rfl, by kernel_rfl, ?_, by kernel_rfl, by kernel_rfl, ?_⟩⟩
  · simp [SV.wf, nilSlice]
  · rfl
theorem ty5 : ∃ i d, TOk Tryz.prog 5 ⟨1, 1, .int .u8, .int .u8 0⟩ i d := by
  refine ⟨Tryz.t5, _, ⟨by kernel_rfl, Tryz.underlying5, by kernel_rfl, by kernel_rfl, by kernel_rfl, ?_, by kernel_rfl, by kernel_rfl, ?_⟩⟩
  · simp [SV.wf, nilSlice]
  · rfl
theorem ty6 : ∃ i d, TOk Tryz.prog 6 ⟨1, 1, .int .u8, .int .u8 0⟩ i d := by
  refine ⟨Tryz.t6, _, ⟨by kernel_rfl, Tryz.underlying6, by kernel_rfl, by kernel_rfl, by kernel_rfl, ?_, by kernel_rfl, by kernel_rfl, ?_⟩⟩
  · simp [SV.wf, nilSlice]
  · rfl
theorem ty7 : ∃ i d, TOk Tryz.prog 7 ⟨4, 24, .struct [(0, 2), (1, 3), (2, 4), (3, 6)], .agg [.int .i64 0, .int .i64 0, .bool false, .int .u8 0]⟩ i d := by
  refine ⟨Tryz.t7, _, ⟨by kernel_rfl, Tryz.underlying7, by kernel_rfl, by kernel_rfl, by kernel_rfl, ?_, by kernel_rfl, by kernel_rfl, ?_⟩⟩
  · simp [SV.wf, SV.wfA, SV.nt, nilSlice, SV.sz, SV.sz.szL]
  · exact kok_struct _ _ _ rfl (by kernel_rfl) (by kernel_rfl)
theorem ty8 : ∃ i d, TOk Tryz.prog 8 ⟨4, 24, .struct [(0, 2), (1, 3), (2, 4), (3, 6)], .agg [.int .i64 0, .int .i64 0, .bool false, .int .u8 0]⟩ i d := by
  refine ⟨Tryz.t8, _, ⟨by kernel_rfl, Tryz.underlying8, by kernel_rfl, by kernel_rfl, by kernel_rfl, ?_, by kernel_rfl, by kernel_rfl, ?_⟩⟩
  · simp [SV.wf, SV.wfA, SV.nt, nilSlice, SV.sz, SV.sz.szL]
  · exact kok_struct _ _ _ rfl (by kernel_rfl) (by kernel_rfl)
theorem ty9 : ∃ i d, TOk Tryz.prog 9 ⟨1, 16, .str, .str []⟩ i d := by
  refine ⟨Tryz.t9, _, ⟨by kernel_rfl, Tryz.underlying9, by kernel_rfl, by kernel_rfl, by kernel_rfl, ?_, by kernel_rfl, by kernel_rfl, ?_⟩⟩
  · simp [SV.wf, nilSlice]
  · rfl
theorem ty12 : ∃ i d, TOk Tryz.prog 12 ⟨1, 8, .int .u64, .int .u64 0⟩ i d := by
  refine ⟨Tryz.t12, _, ⟨by kernel_rfl, Tryz.underlying12, by kernel_rfl, by kernel_rfl, by kernel_rfl, ?_, by kernel_rfl, by kernel_rfl, ?_⟩⟩
  · simp [SV.wf, nilSlice]
  · rfl
theorem ty13 : ∃ i d, TOk Tryz.prog 13 ⟨2, 24, .struct [(0, 9), (1, 12)], .agg [.str [], .int .u64 0]⟩ i d := by
  refine ⟨Tryz.t13, _, ⟨by kernel_rfl, Tryz.underlying13, by kernel_rfl, by kernel_rfl, by kernel_rfl, ?_, by kernel_rfl, by kernel_rfl, ?_⟩⟩
  · simp [SV.wf, SV.wfA, SV.nt, nilSlice, SV.sz, SV.sz.szL]
  · exact kok_struct _ _ _ rfl (by kernel_rfl) (by kernel_rfl)
theorem ty14 : ∃ i d, TOk Tryz.prog 14 ⟨2, 24, .struct [(0, 9), (1, 12)], .agg [.str [], .int .u64 0]⟩ i d := by
  refine ⟨Tryz.t14, _, ⟨by kernel_rfl, Tryz.underlying14, by kernel_rfl, by kernel_rfl, by kernel_rfl, ?_, by kernel_rfl, by kernel_rfl, ?_⟩⟩
  · simp [SV.wf, SV.wfA, SV.nt, nilSlice, SV.sz, SV.sz.szL]
  · exact kok_struct _ _ _ rfl (by kernel_rfl) (by kernel_rfl)
theorem ty16 : ∃ i d, TOk Tryz.prog 16 ⟨1, 8, .ptr 250, .val (.pointer none)⟩ i d := by
  refine ⟨Tryz.t16, _, ⟨by kernel_rfl, Tryz.underlying16, by kernel_rfl, by kernel_rfl, by kernel_rfl, ?_, by kernel_rfl, by kernel_rfl, ?_⟩⟩
  · simp [SV.wf, nilSlice]
  · rfl
theorem ty17 : ∃ i d, TOk Tryz.prog 17 ⟨1, 8, .ptr 258, .val (.pointer none)⟩ i d := by
  refine ⟨Tryz.t17, _, ⟨by kernel_rfl, Tryz.underlying17, by kernel_rfl, by kernel_rfl, by kernel_rfl, ?_, by kernel_rfl, by kernel_rfl, ?_⟩⟩
  · simp [SV.wf, nilSlice]
  · rfl
theorem ty20 : ∃ i d, TOk Tryz.prog 20 ⟨1, 16, .iface, .val .nilIface⟩ i d := by
  refine ⟨Tryz.t20, _, ⟨by kernel_rfl, Tryz.underlying20, by kernel_rfl, by kernel_rfl, by kernel_rfl, ?_, by kernel_rfl, by kernel_rfl, ?_⟩⟩
  · simp [SV.wf, nilSlice]
  · exact ⟨_, rfl⟩
theorem ty23 : ∃ i d, TOk Tryz.prog 23 ⟨1, 8, .int .i64, .int .i64 0⟩ i d := by
  refine ⟨Tryz.t23, _, ⟨by kernel_rfl, Tryz.underlying23, by kernel_rfl, by kernel_rfl, by kernel_rfl, ?_, by kernel_rfl, by kernel_rfl, ?_⟩⟩
  · simp [SV.wf, nilSlice]
  · rfl
theorem ty29 : ∃ i d, TOk Tryz.prog 29 ⟨1, 24, .slice 9, nilSlice⟩ i d := by
  refine ⟨Tryz.t29, _, ⟨by kernel_rfl, Tryz.underlying29, by kernel_rfl, by kernel_rfl, by kernel_rfl, ?_, by kernel_rfl, by kernel_rfl, ?_⟩⟩
  · simp [SV.wf, nilSlice]
  · rfl
theorem ty30 : ∃ i d, TOk Tryz.prog 30 ⟨1, 24, .slice 3, nilSlice⟩ i d := by
  refine ⟨Tryz.t30, _, ⟨by kernel_rfl, Tryz.underlying30, by kernel_rfl, by kernel_rfl, by kernel_rfl, ?_, by kernel_rfl, by kernel_rfl, ?_⟩⟩
  · simp [SV.wf, nilSlice]
  · rfl
theorem ty31 : ∃ i d, TOk Tryz.prog 31 ⟨1, 24, .slice 5, nilSlice⟩ i d := by
  refine ⟨Tryz.t31, _, ⟨by kernel_rfl, Tryz.underlying31, by kernel_rfl, by kernel_rfl, by kernel_rfl, ?_, by kernel_rfl, by kernel_rfl, ?_⟩⟩
  · simp [SV.wf, nilSlice]
  · rfl
theorem ty32 : ∃ i d, TOk Tryz.prog 32 ⟨5, 88, .struct [(0, 3), (1, 3), (2, 29), (3, 30), (4, 31)], .agg [.int .i64 0, .int .i64 0, nilSlice, nilSlice, nilSlice]⟩ i d := by
  refine ⟨Tryz.t32, _, ⟨by kernel_rfl, Tryz.underlying32, by kernel_rfl, by kernel_rfl, by kernel_rfl, ?_, by kernel_rfl, by kernel_rfl, ?_⟩⟩
  · simp [SV.wf, SV.wfA, SV.nt, nilSlice, SV.sz, SV.sz.szL]
  · exact kok_struct _ _ _ rfl (by kernel_rfl) (by kernel_rfl)
theorem ty36 : ∃ i d, TOk Tryz.prog 36 ⟨1, 8, .ptr 69, .val (.pointer none)⟩ i d := by
  refine ⟨Tryz.t36, _, ⟨by kernel_rfl, Tryz.underlying36, by kernel_rfl, by kernel_rfl, by kernel_rfl, ?_, by kernel_rfl, by kernel_rfl, ?_⟩⟩
  · simp [SV.wf, nilSlice]
  · rfl
theorem ty44 : ∃ i d, TOk Tryz.prog 44 ⟨1, 24, .slice 57, nilSlice⟩ i d := by
  refine ⟨Tryz.t44, _, ⟨by kernel_rfl, Tryz.underlying44, by kernel_rfl, by kernel_rfl, by kernel_rfl, ?_, by kernel_rfl, by kernel_rfl, ?_⟩⟩
  · simp [SV.wf, nilSlice]
  · rfl
theorem ty49 : ∃ i d, TOk Tryz.prog 49 ⟨7, 72, .struct [(0, 3), (1, 30), (2, 4), (3, 3), (4, 4), (5, 3), (6, 3)], .agg [.int .i64 0, nilSlice, .bool false, .int .i64 0, .bool false, .int .i64 0, .int .i64 0]⟩ i d := by
  refine ⟨Tryz.t49, _, ⟨by kernel_rfl, Tryz.underlying49, by kernel_rfl, by kernel_rfl, by kernel_rfl, ?_, by kernel_rfl, by kernel_rfl, ?_⟩⟩
  · simp [SV.wf, SV.wfA, SV.nt, nilSlice, SV.sz, SV.sz.szL]
  · exact kok_struct _ _ _ rfl (by kernel_rfl) (by kernel_rfl)
theorem ty50 : ∃ i d, TOk Tryz.prog 50 ⟨1, 8, .ptr 49, .val (.pointer none)⟩ i d := by
  refine ⟨Tryz.t50, _, ⟨by kernel_rfl, Tryz.underlying50, by kernel_rfl, by kernel_rfl, by kernel_rfl, ?_, by kernel_rfl, by kernel_rfl, ?_⟩⟩
  · simp [SV.wf, nilSlice]
  · rfl
theorem ty57 : ∃ i d, TOk Tryz.prog 57 ⟨4, 40, .struct [(0, 9), (1, 4), (2, 3), (3, 3)], .agg [.str [], .bool false, .int .i64 0, .int .i64 0]⟩ i d := by
  refine ⟨Tryz.t57, _, ⟨by kernel_rfl, Tryz.underlying57, by kernel_rfl, by kernel_rfl, by kernel_rfl, ?_, by kernel_rfl, by kernel_rfl, ?_⟩⟩
  · simp [SV.wf, SV.wfA, SV.nt, nilSlice, SV.sz, SV.sz.szL]
  · exact kok_struct _ _ _ rfl (by kernel_rfl) (by kernel_rfl)
theorem ty59 : ∃ i d, TOk Tryz.prog 59 ⟨1, 8, .int .u64, .int .u64 0⟩ i d := by
  refine ⟨Tryz.t59, _, ⟨by kernel_rfl, Tryz.underlying59, by kernel_rfl, by kernel_rfl, by kernel_rfl, ?_, by kernel_rfl, by kernel_rfl, ?_⟩⟩
  · simp [SV.wf, nilSlice]
  · rfl
theorem ty60 : ∃ i d, TOk Tryz.prog 60 ⟨1, 8, .fn, .val .nilFunc⟩ i d := by
  refine ⟨Tryz.t60, _, ⟨by kernel_rfl, Tryz.underlying60, by kernel_rfl, by kernel_rfl, by kernel_rfl, ?_, by kernel_rfl, by kernel_rfl, ?_⟩⟩
  · simp [SV.wf, nilSlice]
  · exact ⟨_, _, _, rfl⟩
theorem ty63 : ∃ i d, TOk Tryz.prog 63 ⟨1, 8, .ptr 108, .val (.pointer none)⟩ i d := by
  refine ⟨Tryz.t63, _, ⟨by kernel_rfl, Tryz.underlying63, by kernel_rfl, by kernel_rfl, by kernel_rfl, ?_, by kernel_rfl, by kernel_rfl, ?_⟩⟩
  · simp [SV.wf, nilSlice]
  · rfl
theorem ty64 : ∃ i d, TOk Tryz.prog 64 ⟨1, 8, .fn, .val .nilFunc⟩ i d := by
  refine ⟨Tryz.t64, _, ⟨by kernel_rfl, Tryz.underlying64, by kernel_rfl, by kernel_rfl, by kernel_rfl, ?_, by kernel_rfl, by kernel_rfl, ?_⟩⟩
  · simp [SV.wf, nilSlice]
  · exact ⟨_, _, _, rfl⟩
theorem ty65 : ∃ i d, TOk Tryz.prog 65 ⟨1, 8, .fn, .val .nilFunc⟩ i d := by
  refine ⟨Tryz.t65, _, ⟨by kernel_rfl, Tryz.underlying65, by kernel_rfl, by kernel_rfl, by kernel_rfl, ?_, by kernel_rfl, by kernel_rfl, ?_⟩⟩
  · simp [SV.wf, nilSlice]
  · exact ⟨_, _, _, rfl⟩
theorem ty67 : ∃ i d, TOk Tryz.prog 67 ⟨5, 40, .struct [(0, 60), (1, 60), (2, 60), (3, 64), (4, 65)], .agg [.val .nilFunc, .val .nilFunc, .val .nilFunc, .val .nilFunc, .val .nilFunc]⟩ i d := by
  refine ⟨Tryz.t67, _, ⟨by kernel_rfl, Tryz.underlying67, by kernel_rfl, by kernel_rfl, by kernel_rfl, ?_, by kernel_rfl, by kernel_rfl, ?_⟩⟩
  · simp [SV.wf, SV.wfA, SV.nt, nilSlice, SV.sz, SV.sz.szL]
  · exact kok_struct _ _ _ rfl (by kernel_rfl) (by kernel_rfl)
theorem ty69 : ∃ i d, TOk Tryz.prog 69 ⟨6, 48, .struct [(0, 63), (1, 67)], .agg [.val (.pointer none), .agg [.val .nilFunc, .val .nilFunc, .val .nilFunc, .val .nilFunc, .val .nilFunc]]⟩ i d := by
  refine ⟨Tryz.t69, _, ⟨by kernel_rfl, Tryz.underlying69, by kernel_rfl, by kernel_rfl, by kernel_rfl, ?_, by kernel_rfl, by kernel_rfl, ?_⟩⟩
  · simp [SV.wf, SV.wfA, SV.nt, nilSlice, SV.sz, SV.sz.szL]
  · exact kok_struct _ _ _ rfl (by kernel_rfl) (by kernel_rfl)
theorem ty70 : ∃ i d, TOk Tryz.prog 70 ⟨1, 24, .slice 36, nilSlice⟩ i d := by
  refine ⟨Tryz.t70, _, ⟨by kernel_rfl, Tryz.underlying70, by kernel_rfl, by kernel_rfl, by kernel_rfl, ?_, by kernel_rfl, by kernel_rfl, ?_⟩⟩
  · simp [SV.wf, nilSlice]
  · rfl
theorem ty75 : ∃ i d, TOk Tryz.prog 75 ⟨1, 8, .fn, .val .nilFunc⟩ i d := by
  refine ⟨Tryz.t75, _, ⟨by kernel_rfl, Tryz.underlying75, by kernel_rfl, by kernel_rfl, by kernel_rfl, ?_, by kernel_rfl, by kernel_rfl, ?_⟩⟩
  · simp [SV.wf, nilSlice]
  · exact ⟨_, _, _, rfl⟩
theorem ty77 : ∃ i d, TOk Tryz.prog 77 ⟨1, 24, .slice 60, nilSlice⟩ i d := by
  refine ⟨Tryz.t77, _, ⟨by kernel_rfl, Tryz.underlying77, by kernel_rfl, by kernel_rfl, by kernel_rfl, ?_, by kernel_rfl, by kernel_rfl, ?_⟩⟩
  · simp [SV.wf, nilSlice]
  · rfl
theorem ty83 : ∃ i d, TOk Tryz.prog 83 ⟨1, 24, .slice 87, nilSlice⟩ i d := by
  refine ⟨Tryz.t83, _, ⟨by kernel_rfl, Tryz.underlying83, by kernel_rfl, by kernel_rfl, by kernel_rfl, ?_, by kernel_rfl, by kernel_rfl, ?_⟩⟩
  · simp [SV.wf, nilSlice]
  · rfl
theorem ty87 : ∃ i d, TOk Tryz.prog 87 ⟨3, 40, .struct [(0, 2), (1, 3), (2, 30)], .agg [.int .i64 0, .int .i64 0, nilSlice]⟩ i d := by
  refine ⟨Tryz.t87, _, ⟨by kernel_rfl, Tryz.underlying87, by kernel_rfl, by kernel_rfl, by kernel_rfl, ?_, by kernel_rfl, by kernel_rfl, ?_⟩⟩
  · simp [SV.wf, SV.wfA, SV.nt, nilSlice, SV.sz, SV.sz.szL]
  · exact kok_struct _ _ _ rfl (by kernel_rfl) (by kernel_rfl)
theorem ty91 : ∃ i d, TOk Tryz.prog 91 ⟨1, 8, .fn, .val .nilFunc⟩ i d := by
  refine ⟨Tryz.t91, _, ⟨by kernel_rfl, Tryz.underlying91, by kernel_rfl, by kernel_rfl, by kernel_rfl, ?_, by kernel_rfl, by kernel_rfl, ?_⟩⟩
  · simp [SV.wf, nilSlice]
  · exact ⟨_, _, _, rfl⟩
theorem ty103 : ∃ i d, TOk Tryz.prog 103 ⟨1, 8, .ptr 105, .val (.pointer none)⟩ i d := by
  refine ⟨Tryz.t103, _, ⟨by kernel_rfl, Tryz.underlying103, by kernel_rfl, by kernel_rfl, by kernel_rfl, ?_, by kernel_rfl, by kernel_rfl, ?_⟩⟩
  · simp [SV.wf, nilSlice]
  · rfl
theorem ty105 : ∃ i d, TOk Tryz.prog 105 ⟨2, 16, .struct [(0, 2), (1, 4)], .agg [.int .i64 0, .bool false]⟩ i d := by
  refine ⟨Tryz.t105, _, ⟨by kernel_rfl, Tryz.underlying105, by kernel_rfl, by kernel_rfl, by kernel_rfl, ?_, by kernel_rfl, by kernel_rfl, ?_⟩⟩
  · simp [SV.wf, SV.wfA, SV.nt, nilSlice, SV.sz, SV.sz.szL]
  · exact kok_struct _ _ _ rfl (by kernel_rfl) (by kernel_rfl)
theorem ty106 : ∃ i d, TOk Tryz.prog 106 ⟨1, 8, .fn, .val .nilFunc⟩ i d := by
  refine ⟨Tryz.t106, _, ⟨by kernel_rfl, Tryz.underlying106, by kernel_rfl, by kernel_rfl, by kernel_rfl, ?_, by kernel_rfl, by kernel_rfl, ?_⟩⟩
  · simp [SV.wf, nilSlice]
  · exact ⟨_, _, _, rfl⟩
theorem ty108 : ∃ i d, TOk Tryz.prog 108 ⟨8, 80, .struct [(0, 103), (1, 3), (2, 30), (3, 2), (4, 4), (5, 3), (6, 3), (7, 106)], .agg [.val (.pointer none), .int .i64 0, nilSlice, .int .i64 0, .bool false, .int .i64 0, .int .i64 0, .val .nilFunc]⟩ i d := by
  refine ⟨Tryz.t108, _, ⟨by kernel_rfl, Tryz.underlying108, by kernel_rfl, by kernel_rfl, by kernel_rfl, ?_, by kernel_rfl, by kernel_rfl, ?_⟩⟩
  · simp [SV.wf, SV.wfA, SV.nt, nilSlice, SV.sz, SV.sz.szL]
  · exact kok_struct _ _ _ rfl (by kernel_rfl) (by kernel_rfl)
theorem ty110 : ∃ i d, TOk Tryz.prog 110 ⟨1, 8, .fn, .val .nilFunc⟩ i d := by
  refine ⟨Tryz.t110, _, ⟨by kernel_rfl, Tryz.underlying110, by kernel_rfl, by kernel_rfl, by kernel_rfl, ?_, by kernel_rfl, by kernel_rfl, ?_⟩⟩
  · simp [SV.wf, nilSlice]
  · exact ⟨_, _, _, rfl⟩
theorem ty117 : ∃ i d, TOk Tryz.prog 117 ⟨1, 4, .int .u32, .int .u32 0⟩ i d := by
  refine ⟨Tryz.t117, _, ⟨by kernel_rfl, Tryz.underlying117, by kernel_rfl, by kernel_rfl, by kernel_rfl, ?_, by kernel_rfl, by kernel_rfl, ?_⟩⟩
  · simp [SV.wf, nilSlice]
  · rfl
theorem ty118 : ∃ i d, TOk Tryz.prog 118 ⟨1, 24, .slice 31, nilSlice⟩ i d := by
  refine ⟨Tryz.t118, _, ⟨by kernel_rfl, Tryz.underlying118, by kernel_rfl, by kernel_rfl, by kernel_rfl, ?_, by kernel_rfl, by kernel_rfl, ?_⟩⟩
  · simp [SV.wf, nilSlice]
  · rfl
theorem ty121 : ∃ i d, TOk Tryz.prog 121 ⟨3, 24, .struct [(0, 3), (1, 3), (2, 3)], .agg [.int .i64 0, .int .i64 0, .int .i64 0]⟩ i d := by
  refine ⟨Tryz.t121, _, ⟨by kernel_rfl, Tryz.underlying121, by kernel_rfl, by kernel_rfl, by kernel_rfl, ?_, by kernel_rfl, by kernel_rfl, ?_⟩⟩
  · simp [SV.wf, SV.wfA, SV.nt, nilSlice, SV.sz, SV.sz.szL]
  · exact kok_struct _ _ _ rfl (by kernel_rfl) (by kernel_rfl)
theorem ty122 : ∃ i d, TOk Tryz.prog 122 ⟨6, 48, .arr 2 121, .arr 2 3 fun _ => .agg [.int .i64 0, .int .i64 0, .int .i64 0]⟩ i d := by
  refine ⟨Tryz.t122, _, ⟨by kernel_rfl, Tryz.underlying122, by kernel_rfl, by kernel_rfl, by kernel_rfl, ?_, by kernel_rfl, by kernel_rfl, ?_⟩⟩
  · simp [SV.wf, SV.wfA, SV.nt, nilSlice, SV.sz, SV.sz.szL]
  · rfl
theorem ty123 : ∃ i d, TOk Tryz.prog 123 ⟨384, 3072, .arr 64 122, .arr 64 6 fun _ => .arr 2 3 fun _ => .agg [.int .i64 0, .int .i64 0, .int .i64 0]⟩ i d := by
  refine ⟨Tryz.t123, _, ⟨by kernel_rfl, Tryz.underlying123, by kernel_rfl, by kernel_rfl, by kernel_rfl, ?_, by kernel_rfl, by kernel_rfl, ?_⟩⟩
  · simp [SV.wf, SV.wfA, SV.nt, nilSlice, SV.sz, SV.sz.szL]
  · rfl
theorem ty126 : ∃ i d, TOk Tryz.prog 126 ⟨1, 8, .fn, .val .nilFunc⟩ i d := by
  refine ⟨Tryz.t126, _, ⟨by kernel_rfl, Tryz.underlying126, by kernel_rfl, by kernel_rfl, by kernel_rfl, ?_, by kernel_rfl, by kernel_rfl, ?_⟩⟩
  · simp [SV.wf, nilSlice]
  · exact ⟨_, _, _, rfl⟩
theorem ty128 : ∃ i d, TOk Tryz.prog 128 ⟨3, 24, .struct [(0, 3), (1, 3), (2, 3)], .agg [.int .i64 0, .int .i64 0, .int .i64 0]⟩ i d := by
  refine ⟨Tryz.t128, _, ⟨by kernel_rfl, Tryz.underlying128, by kernel_rfl, by kernel_rfl, by kernel_rfl, ?_, by kernel_rfl, by kernel_rfl, ?_⟩⟩
  · simp [SV.wf, SV.wfA, SV.nt, nilSlice, SV.sz, SV.sz.szL]
  · exact kok_struct _ _ _ rfl (by kernel_rfl) (by kernel_rfl)
theorem ty129 : ∃ i d, TOk Tryz.prog 129 ⟨3, 24, .struct [(0, 3), (1, 3), (2, 3)], .agg [.int .i64 0, .int .i64 0, .int .i64 0]⟩ i d := by
  refine ⟨Tryz.t129, _, ⟨by kernel_rfl, Tryz.underlying129, by kernel_rfl, by kernel_rfl, by kernel_rfl, ?_, by kernel_rfl, by kernel_rfl, ?_⟩⟩
  · simp [SV.wf, SV.wfA, SV.nt, nilSlice, SV.sz, SV.sz.szL]
  · exact kok_struct _ _ _ rfl (by kernel_rfl) (by kernel_rfl)
theorem ty130 : ∃ i d, TOk Tryz.prog 130 ⟨6, 48, .arr 2 129, .arr 2 3 fun _ => .agg [.int .i64 0, .int .i64 0, .int .i64 0]⟩ i d := by
  refine ⟨Tryz.t130, _, ⟨by kernel_rfl, Tryz.underlying130, by kernel_rfl, by kernel_rfl, by kernel_rfl, ?_, by kernel_rfl, by kernel_rfl, ?_⟩⟩
  · simp [SV.wf, SV.wfA, SV.nt, nilSlice, SV.sz, SV.sz.szL]
  · rfl
theorem ty131 : ∃ i d, TOk Tryz.prog 131 ⟨384, 3072, .arr 64 130, .arr 64 6 fun _ => .arr 2 3 fun _ => .agg [.int .i64 0, .int .i64 0, .int .i64 0]⟩ i d := by
  refine ⟨Tryz.t131, _, ⟨by kernel_rfl, Tryz.underlying131, by kernel_rfl, by kernel_rfl, by kernel_rfl, ?_, by kernel_rfl, by kernel_rfl, ?_⟩⟩
  · simp [SV.wf, SV.wfA, SV.nt, nilSlice, SV.sz, SV.sz.szL]
  · rfl
theorem ty136 : ∃ i d, TOk Tryz.prog 136 ⟨2, 16, .struct [(0, 3), (1, 3)], .agg [.int .i64 0, .int .i64 0]⟩ i d := by
  refine ⟨Tryz.t136, _, ⟨by kernel_rfl, Tryz.underlying136, by kernel_rfl, by kernel_rfl, by kernel_rfl, ?_, by kernel_rfl, by kernel_rfl, ?_⟩⟩
  · simp [SV.wf, SV.wfA, SV.nt, nilSlice, SV.sz, SV.sz.szL]
  · exact kok_struct _ _ _ rfl (by kernel_rfl) (by kernel_rfl)
theorem ty137 : ∃ i d, TOk Tryz.prog 137 ⟨128, 1024, .arr 64 136, .arr 64 2 fun _ => .agg [.int .i64 0, .int .i64 0]⟩ i d := by
  refine ⟨Tryz.t137, _, ⟨by kernel_rfl, Tryz.underlying137, by kernel_rfl, by kernel_rfl, by kernel_rfl, ?_, by kernel_rfl, by kernel_rfl, ?_⟩⟩
  · simp [SV.wf, SV.wfA, SV.nt, nilSlice, SV.sz, SV.sz.szL]
  · rfl
theorem ty138 : ∃ i d, TOk Tryz.prog 138 ⟨1, 24, .slice 140, nilSlice⟩ i d := by
  refine ⟨Tryz.t138, _, ⟨by kernel_rfl, Tryz.underlying138, by kernel_rfl, by kernel_rfl, by kernel_rfl, ?_, by kernel_rfl, by kernel_rfl, ?_⟩⟩
  · simp [SV.wf, nilSlice]
  · rfl
theorem ty139 : ∃ i d, TOk Tryz.prog 139 ⟨1, 8, .ptr 140, .val (.pointer none)⟩ i d := by
  refine ⟨Tryz.t139, _, ⟨by kernel_rfl, Tryz.underlying139, by kernel_rfl, by kernel_rfl, by kernel_rfl, ?_, by kernel_rfl, by kernel_rfl, ?_⟩⟩
  · simp [SV.wf, nilSlice]
  · rfl
theorem ty140 : ∃ i d, TOk Tryz.prog 140 ⟨64, 512, .arr 64 3, .arr 64 1 fun _ => .int .i64 0⟩ i d := by
  refine ⟨Tryz.t140, _, ⟨by kernel_rfl, Tryz.underlying140, by kernel_rfl, by kernel_rfl, by kernel_rfl, ?_, by kernel_rfl, by kernel_rfl, ?_⟩⟩
  · simp [SV.wf, SV.wfA, SV.nt, nilSlice, SV.sz, SV.sz.szL]
  · rfl
theorem ty142 : ∃ i d, TOk Tryz.prog 142 ⟨1, 8, .ptr 137, .val (.pointer none)⟩ i d := by
  refine ⟨Tryz.t142, _, ⟨by kernel_rfl, Tryz.underlying142, by kernel_rfl, by kernel_rfl, by kernel_rfl, ?_, by kernel_rfl, by kernel_rfl, ?_⟩⟩
  · simp [SV.wf, nilSlice]
  · rfl
theorem ty143 : ∃ i d, TOk Tryz.prog 143 ⟨1, 24, .slice 136, nilSlice⟩ i d := by
  refine ⟨Tryz.t143, _, ⟨by kernel_rfl, Tryz.underlying143, by kernel_rfl, by kernel_rfl, by kernel_rfl, ?_, by kernel_rfl, by kernel_rfl, ?_⟩⟩
  · simp [SV.wf, nilSlice]
  · rfl
theorem ty148 : ∃ i d, TOk Tryz.prog 148 ⟨256, 256, .arr 256 4, .arr 256 1 fun _ => .bool false⟩ i d := by
  refine ⟨Tryz.t148, _, ⟨by kernel_rfl, Tryz.underlying148, by kernel_rfl, by kernel_rfl, by kernel_rfl, ?_, by kernel_rfl, by kernel_rfl, ?_⟩⟩
  · simp [SV.wf, SV.wfA, SV.nt, nilSlice, SV.sz, SV.sz.szL]
  · rfl
theorem ty149 : ∃ i d, TOk Tryz.prog 149 ⟨256, 256, .arr 256 4, .arr 256 1 fun _ => .bool false⟩ i d := by
  refine ⟨Tryz.t149, _, ⟨by kernel_rfl, Tryz.underlying149, by kernel_rfl, by kernel_rfl, by kernel_rfl, ?_, by kernel_rfl, by kernel_rfl, ?_⟩⟩
  · simp [SV.wf, SV.wfA, SV.nt, nilSlice, SV.sz, SV.sz.szL]
  · rfl
theorem ty153 : ∃ i d, TOk Tryz.prog 153 ⟨1, 8, .ptr 149, .val (.pointer none)⟩ i d := by
  refine ⟨Tryz.t153, _, ⟨by kernel_rfl, Tryz.underlying153, by kernel_rfl, by kernel_rfl, by kernel_rfl, ?_, by kernel_rfl, by kernel_rfl, ?_⟩⟩
  · simp [SV.wf, nilSlice]
  · rfl
theorem ty154 : ∃ i d, TOk Tryz.prog 154 ⟨32, 32, .arr 32 5, .arr 32 1 fun _ => .int .u8 0⟩ i d := by
  refine ⟨Tryz.t154, _, ⟨by kernel_rfl, Tryz.underlying154, by kernel_rfl, by kernel_rfl, by kernel_rfl, ?_, by kernel_rfl, by kernel_rfl, ?_⟩⟩
  · simp [SV.wf, SV.wfA, SV.nt, nilSlice, SV.sz, SV.sz.szL]
  · rfl
theorem ty157 : ∃ i d, TOk Tryz.prog 157 ⟨1, 24, .slice 159, nilSlice⟩ i d := by
  refine ⟨Tryz.t157, _, ⟨by kernel_rfl, Tryz.underlying157, by kernel_rfl, by kernel_rfl, by kernel_rfl, ?_, by kernel_rfl, by kernel_rfl, ?_⟩⟩
  · simp [SV.wf, nilSlice]
  · rfl
theorem ty159 : ∃ i d, TOk Tryz.prog 159 ⟨3, 32, .struct [(0, 4), (1, 3), (2, 9)], .agg [.bool false, .int .i64 0, .str []]⟩ i d := by
  refine ⟨Tryz.t159, _, ⟨by kernel_rfl, Tryz.underlying159, by kernel_rfl, by kernel_rfl, by kernel_rfl, ?_, by kernel_rfl, by kernel_rfl, ?_⟩⟩
  · simp [SV.wf, SV.wfA, SV.nt, nilSlice, SV.sz, SV.sz.szL]
  · exact kok_struct _ _ _ rfl (by kernel_rfl) (by kernel_rfl)
theorem ty165 : ∃ i d, TOk Tryz.prog 165 ⟨1, 8, .fn, .val .nilFunc⟩ i d := by
  refine ⟨Tryz.t165, _, ⟨by kernel_rfl, Tryz.underlying165, by kernel_rfl, by kernel_rfl, by kernel_rfl, ?_, by kernel_rfl, by kernel_rfl, ?_⟩⟩
  · simp [SV.wf, nilSlice]
  · exact ⟨_, _, _, rfl⟩
theorem ty166 : ∃ i d, TOk Tryz.prog 166 ⟨8, 8, .arr 8 5, .arr 8 1 fun _ => .int .u8 0⟩ i d := by
  refine ⟨Tryz.t166, _, ⟨by kernel_rfl, Tryz.underlying166, by kernel_rfl, by kernel_rfl, by kernel_rfl, ?_, by kernel_rfl, by kernel_rfl, ?_⟩⟩
  · simp [SV.wf, SV.wfA, SV.nt, nilSlice, SV.sz, SV.sz.szL]
  · rfl
theorem ty183 : ∃ i d, TOk Tryz.prog 183 ⟨1, 24, .slice 5, nilSlice⟩ i d := by
  refine ⟨Tryz.t183, _, ⟨by kernel_rfl, Tryz.underlying183, by kernel_rfl, by kernel_rfl, by kernel_rfl, ?_, by kernel_rfl, by kernel_rfl, ?_⟩⟩
  · simp [SV.wf, nilSlice]
  · rfl
theorem ty184 : ∃ i d, TOk Tryz.prog 184 ⟨1, 8, .fn, .val .nilFunc⟩ i d := by
  refine ⟨Tryz.t184, _, ⟨by kernel_rfl, Tryz.underlying184, by kernel_rfl, by kernel_rfl, by kernel_rfl, ?_, by kernel_rfl, by kernel_rfl, ?_⟩⟩
  · simp [SV.wf, nilSlice]
  · exact ⟨_, _, _, rfl⟩
theorem ty188 : ∃ i d, TOk Tryz.prog 188 ⟨1, 8, .fn, .val .nilFunc⟩ i d := by
  refine ⟨Tryz.t188, _, ⟨by kernel_rfl, Tryz.underlying188, by kernel_rfl, by kernel_rfl, by kernel_rfl, ?_, by kernel_rfl, by kernel_rfl, ?_⟩⟩
  · simp [SV.wf, nilSlice]
  · exact ⟨_, _, _, rfl⟩
theorem ty191 : ∃ i d, TOk Tryz.prog 191 ⟨1, 24, .slice 193, nilSlice⟩ i d := by
  refine ⟨Tryz.t191, _, ⟨by kernel_rfl, Tryz.underlying191, by kernel_rfl, by kernel_rfl, by kernel_rfl, ?_, by kernel_rfl, by kernel_rfl, ?_⟩⟩
  · simp [SV.wf, nilSlice]
  · rfl
theorem ty192 : ∃ i d, TOk Tryz.prog 192 ⟨9, 9, .arr 9 5, .arr 9 1 fun _ => .int .u8 0⟩ i d := by
  refine ⟨Tryz.t192, _, ⟨by kernel_rfl, Tryz.underlying192, by kernel_rfl, by kernel_rfl, by kernel_rfl, ?_, by kernel_rfl, by kernel_rfl, ?_⟩⟩
  · simp [SV.wf, SV.wfA, SV.nt, nilSlice, SV.sz, SV.sz.szL]
  · rfl
theorem ty193 : ∃ i d, TOk Tryz.prog 193 ⟨9, 9, .arr 9 5, .arr 9 1 fun _ => .int .u8 0⟩ i d := by
  refine ⟨Tryz.t193, _, ⟨by kernel_rfl, Tryz.underlying193, by kernel_rfl, by kernel_rfl, by kernel_rfl, ?_, by kernel_rfl, by kernel_rfl, ?_⟩⟩
  · simp [SV.wf, SV.wfA, SV.nt, nilSlice, SV.sz, SV.sz.szL]
  · rfl
theorem ty196 : ∃ i d, TOk Tryz.prog 196 ⟨1, 24, .slice 30, nilSlice⟩ i d := by
  refine ⟨Tryz.t196, _, ⟨by kernel_rfl, Tryz.underlying196, by kernel_rfl, by kernel_rfl, by kernel_rfl, ?_, by kernel_rfl, by kernel_rfl, ?_⟩⟩
  · simp [SV.wf, nilSlice]
  · rfl
theorem ty200 : ∃ i d, TOk Tryz.prog 200 ⟨1, 8, .ptr 205, .val (.pointer none)⟩ i d := by
  refine ⟨Tryz.t200, _, ⟨by kernel_rfl, Tryz.underlying200, by kernel_rfl, by kernel_rfl, by kernel_rfl, ?_, by kernel_rfl, by kernel_rfl, ?_⟩⟩
  · simp [SV.wf, nilSlice]
  · rfl
theorem ty202 : ∃ i d, TOk Tryz.prog 202 ⟨255, 255, .arr 255 5, .arr 255 1 fun _ => .int .u8 0⟩ i d := by
  refine ⟨Tryz.t202, _, ⟨by kernel_rfl, Tryz.underlying202, by kernel_rfl, by kernel_rfl, by kernel_rfl, ?_, by kernel_rfl, by kernel_rfl, ?_⟩⟩
  · simp [SV.wf, SV.wfA, SV.nt, nilSlice, SV.sz, SV.sz.szL]
  · rfl
theorem ty203 : ∃ i d, TOk Tryz.prog 203 ⟨256, 2048, .arr 256 3, .arr 256 1 fun _ => .int .i64 0⟩ i d := by
  refine ⟨Tryz.t203, _, ⟨by kernel_rfl, Tryz.underlying203, by kernel_rfl, by kernel_rfl, by kernel_rfl, ?_, by kernel_rfl, by kernel_rfl, ?_⟩⟩
  · simp [SV.wf, SV.wfA, SV.nt, nilSlice, SV.sz, SV.sz.szL]
  · rfl
theorem ty204 : ∃ i d, TOk Tryz.prog 204 ⟨511, 2304, .struct [(0, 202), (255, 203)], .agg [.arr 255 1 fun _ => .int .u8 0, .arr 256 1 fun _ => .int .i64 0]⟩ i d := by
  refine ⟨Tryz.t204, _, ⟨by kernel_rfl, Tryz.underlying204, by kernel_rfl, by kernel_rfl, by kernel_rfl, ?_, by kernel_rfl, by kernel_rfl, ?_⟩⟩
  · simp [SV.wf, SV.wfA, SV.nt, nilSlice, SV.sz, SV.sz.szL]
  · exact kok_struct _ _ _ rfl (by kernel_rfl) (by kernel_rfl)
theorem ty205 : ∃ i d, TOk Tryz.prog 205 ⟨511, 2304, .struct [(0, 202), (255, 203)], .agg [.arr 255 1 fun _ => .int .u8 0, .arr 256 1 fun _ => .int .i64 0]⟩ i d := by
  refine ⟨Tryz.t205, _, ⟨by kernel_rfl, Tryz.underlying205, by kernel_rfl, by kernel_rfl, by kernel_rfl, ?_, by kernel_rfl, by kernel_rfl, ?_⟩⟩
  · simp [SV.wf, SV.wfA, SV.nt, nilSlice, SV.sz, SV.sz.szL]
  · exact kok_struct _ _ _ rfl (by kernel_rfl) (by kernel_rfl)
theorem ty207 : ∃ i d, TOk Tryz.prog 207 ⟨1, 8, .int .i64, .int .i64 0⟩ i d := by
  refine ⟨Tryz.t207, _, ⟨by kernel_rfl, Tryz.underlying207, by kernel_rfl, by kernel_rfl, by kernel_rfl, ?_, by kernel_rfl, by kernel_rfl, ?_⟩⟩
  · simp [SV.wf, nilSlice]
  · rfl
theorem ty216 : ∃ i d, TOk Tryz.prog 216 ⟨1, 8, .int .u64, .int .u64 0⟩ i d := by
  refine ⟨Tryz.t216, _, ⟨by kernel_rfl, Tryz.underlying216, by kernel_rfl, by kernel_rfl, by kernel_rfl, ?_, by kernel_rfl, by kernel_rfl, ?_⟩⟩
  · simp [SV.wf, nilSlice]
  · rfl
theorem ty222 : ∃ i d, TOk Tryz.prog 222 ⟨0, 0, .struct [], .agg []⟩ i d := by
  refine ⟨Tryz.t222, _, ⟨by kernel_rfl, Tryz.underlying222, by kernel_rfl, by kernel_rfl, by kernel_rfl, ?_, by kernel_rfl, by kernel_rfl, ?_⟩⟩
  · simp [SV.wf, SV.wfA, SV.nt, nilSlice, SV.sz, SV.sz.szL]
  · exact kok_struct _ _ _ rfl (by kernel_rfl) (by kernel_rfl)
theorem ty223 : ∃ i d, TOk Tryz.prog 223 ⟨1, 8, .fn, .val .nilFunc⟩ i d := by
  refine ⟨Tryz.t223, _, ⟨by kernel_rfl, Tryz.underlying223, by kernel_rfl, by kernel_rfl, by kernel_rfl, ?_, by kernel_rfl, by kernel_rfl, ?_⟩⟩
  · simp [SV.wf, nilSlice]
  · exact ⟨_, _, _, rfl⟩
theorem ty230 : ∃ i d, TOk Tryz.prog 230 ⟨1, 8, .int .u64, .int .u64 0⟩ i d := by
  refine ⟨Tryz.t230, _, ⟨by kernel_rfl, Tryz.underlying230, by kernel_rfl, by kernel_rfl, by kernel_rfl, ?_, by kernel_rfl, by kernel_rfl, ?_⟩⟩
  · simp [SV.wf, nilSlice]
  · rfl
theorem ty231 : ∃ i d, TOk Tryz.prog 231 ⟨1, 8, .fn, .val .nilFunc⟩ i d := by
  refine ⟨Tryz.t231, _, ⟨by kernel_rfl, Tryz.underlying231, by kernel_rfl, by kernel_rfl, by kernel_rfl, ?_, by kernel_rfl, by kernel_rfl, ?_⟩⟩
  · simp [SV.wf, nilSlice]
  · exact ⟨_, _, _, rfl⟩
theorem ty234 : ∃ i d, TOk Tryz.prog 234 ⟨1, 8, .ptr 3, .val (.pointer none)⟩ i d := by
  refine ⟨Tryz.t234, _, ⟨by kernel_rfl, Tryz.underlying234, by kernel_rfl, by kernel_rfl, by kernel_rfl, ?_, by kernel_rfl, by kernel_rfl, ?_⟩⟩
  · simp [SV.wf, nilSlice]
  · rfl
theorem ty241 : ∃ i d, TOk Tryz.prog 241 ⟨1, 8, .ptr 230, .val (.pointer none)⟩ i d := by
  refine ⟨Tryz.t241, _, ⟨by kernel_rfl, Tryz.underlying241, by kernel_rfl, by kernel_rfl, by kernel_rfl, ?_, by kernel_rfl, by kernel_rfl, ?_⟩⟩
  · simp [SV.wf, nilSlice]
  · rfl
theorem ty251 : ∃ i d, TOk Tryz.prog 251 ⟨1, 1, .int .u8, .int .u8 0⟩ i d := by
  refine ⟨Tryz.t251, _, ⟨by kernel_rfl, Tryz.underlying251, by kernel_rfl, by kernel_rfl, by kernel_rfl, ?_, by kernel_rfl, by kernel_rfl, ?_⟩⟩
  · simp [SV.wf, nilSlice]
  · rfl
theorem ty252 : ∃ i d, TOk Tryz.prog 252 ⟨1, 1, .int .u8, .int .u8 0⟩ i d := by
  refine ⟨Tryz.t252, _, ⟨by kernel_rfl, Tryz.underlying252, by kernel_rfl, by kernel_rfl, by kernel_rfl, ?_, by kernel_rfl, by kernel_rfl, ?_⟩⟩
  · simp [SV.wf, nilSlice]
  · rfl
theorem ty253 : ∃ i d, TOk Tryz.prog 253 ⟨1, 8, .fn, .val .nilFunc⟩ i d := by
  refine ⟨Tryz.t253, _, ⟨by kernel_rfl, Tryz.underlying253, by kernel_rfl, by kernel_rfl, by kernel_rfl, ?_, by kernel_rfl, by kernel_rfl, ?_⟩⟩
  · simp [SV.wf, nilSlice]
  · exact ⟨_, _, _, rfl⟩
theorem ty254 : ∃ i d, TOk Tryz.prog 254 ⟨1, 8, .ptr 5, .val (.pointer none)⟩ i d := by
  refine ⟨Tryz.t254, _, ⟨by kernel_rfl, Tryz.underlying254, by kernel_rfl, by kernel_rfl, by kernel_rfl, ?_, by kernel_rfl, by kernel_rfl, ?_⟩⟩
  · simp [SV.wf, nilSlice]
  · rfl
theorem ty255 : ∃ i d, TOk Tryz.prog 255 ⟨1, 4, .int .i32, .int .i32 0⟩ i d := by
  refine ⟨Tryz.t255, _, ⟨by kernel_rfl, Tryz.underlying255, by kernel_rfl, by kernel_rfl, by kernel_rfl, ?_, by kernel_rfl, by kernel_rfl, ?_⟩⟩
  · simp [SV.wf, nilSlice]
  · rfl
theorem ty256 : ∃ i d, TOk Tryz.prog 256 ⟨1, 4, .int .i32, .int .i32 0⟩ i d := by
  refine ⟨Tryz.t256, _, ⟨by kernel_rfl, Tryz.underlying256, by kernel_rfl, by kernel_rfl, by kernel_rfl, ?_, by kernel_rfl, by kernel_rfl, ?_⟩⟩
  · simp [SV.wf, nilSlice]
  · rfl
theorem ty258 : ∃ i d, TOk Tryz.prog 258 ⟨11, 48, .struct [(0, 12), (1, 12), (2, 117), (3, 251), (4, 5), (5, 5), (6, 252), (7, 253), (8, 254), (9, 255), (10, 256)], .agg [.int .u64 0, .int .u64 0, .int .u32 0, .int .u8 0, .int .u8 0, .int .u8 0, .int .u8 0, .val .nilFunc, .val (.pointer none), .int .i32 0, .int .i32 0]⟩ i d := by
  refine ⟨Tryz.t258, _, ⟨by kernel_rfl, Tryz.underlying258, by kernel_rfl, by kernel_rfl, by kernel_rfl, ?_, by kernel_rfl, by kernel_rfl, ?_⟩⟩
  · simp [SV.wf, SV.wfA, SV.nt, nilSlice, SV.sz, SV.sz.szL]
  · exact kok_struct _ _ _ rfl (by kernel_rfl) (by kernel_rfl)
theorem tenv_ok : ∀ t ti, tenv t = some ti → ∃ i d, TOk Tryz.prog t ti i d := by
  intro t ti h
  unfold tenv at h
  split at h
  · injection h with h; subst h; exact ty1
  · injection h with h; subst h; exact ty2
  · injection h with h; subst h; exact ty3
  · injection h with h; subst h; exact ty4
  · injection h with h; subst h; exact ty5
  · injection h with h; subst h; exact ty6
  · injection h with h; subst h; exact ty7
  · injection h with h; subst h; exact ty8
  · injection h with h; subst h; exact ty9
  · injection h with h; subst h; exact ty12
  · injection h with h; subst h; exact ty13
  · injection h with h; subst h; exact ty14
  · injection h with h; subst h; exact ty16
  · injection h with h; subst h; exact ty17
  · injection h with h; subst h; exact ty20
  · injection h with h; subst h; exact ty23
  · injection h with h; subst h; exact ty29
  · injection h with h; subst h; exact ty30
  · injection h with h; subst h; exact ty31
  · injection h with h; subst h; exact ty32
  · injection h with h; subst h; exact ty36
  · injection h with h; subst h; exact ty44
  · injection h with h; subst h; exact ty49
  · injection h with h; subst h; exact ty50
  · injection h with h; subst h; exact ty57
  · injection h with h; subst h; exact ty59
  · injection h with h; subst h; exact ty60
  · injection h with h; subst h; exact ty63
  · injection h with h; subst h; exact ty64
  · injection h with h; subst h; exact ty65
  · injection h with h; subst h; exact ty67
  · injection h with h; subst h; exact ty69
  · injection h with h; subst h; exact ty70
  · injection h with h; subst h; exact ty75
  · injection h with h; subst h; exact ty77
  · injection h with h; subst h; exact ty83
  · injection h with h; subst h; exact ty87
  · injection h with h; subst h; exact ty91
  · injection h with h; subst h; exact ty103
  · injection h with h; subst h; exact ty105
  · injection h with h; subst h; exact ty106
  · injection h with h; subst h; exact ty108
  · injection h with h; subst h; exact ty110
  · injection h with h; subst h; exact ty117
  · injection h with h; subst h; exact ty118
  · injection h with h; subst h; exact ty121
  · injection h with h; subst h; exact ty122
  · injection h with h; subst h; exact ty123
  · injection h with h; subst h; exact ty126
  · injection h with h; subst h; exact ty128
  · injection h with h; subst h; exact ty129
  · injection h with h; subst h; exact ty130
  · injection h with h; subst h; exact ty131
  · injection h with h; subst h; exact ty136
  · injection h with h; subst h; exact ty137
  · injection h with h; subst h; exact ty138
  · injection h with h; subst h; exact ty139
  · injection h with h; subst h; exact ty140
  · injection h with h; subst h; exact ty142
  · injection h with h; subst h; exact ty143
  · injection h with h; subst h; exact ty148
  · injection h with h; subst h; exact ty149
  · injection h with h; subst h; exact ty153
  · injection h with h; subst h; exact ty154
  · injection h with h; subst h; exact ty157
  · injection h with h; subst h; exact ty159
  · injection h with h; subst h; exact ty165
  · injection h with h; subst h; exact ty166
  · injection h with h; subst h; exact ty183
  · injection h with h; subst h; exact ty184
  · injection h with h; subst h; exact ty188
  · injection h with h; subst h; exact ty191
  · injection h with h; subst h; exact ty192
  · injection h with h; subst h; exact ty193
  · injection h with h; subst h; exact ty196
  · injection h with h; subst h; exact ty200
  · injection h with h; subst h; exact ty202
  · injection h with h; subst h; exact ty203
  · injection h with h; subst h; exact ty204
  · injection h with h; subst h; exact ty205
  · injection h with h; subst h; exact ty207
  · injection h with h; subst h; exact ty216
  · injection h with h; subst h; exact ty222
  · injection h with h; subst h; exact ty223
  · injection h with h; subst h; exact ty230
  · injection h with h; subst h; exact ty231
  · injection h with h; subst h; exact ty234
  · injection h with h; subst h; exact ty241
  · injection h with h; subst h; exact ty251
  · injection h with h; subst h; exact ty252
  · injection h with h; subst h; exact ty253
  · injection h with h; subst h; exact ty254
  · injection h with h; subst h; exact ty255
  · injection h with h; subst h; exact ty256
  · injection h with h; subst h; exact ty258
  · cases h
end Eng
