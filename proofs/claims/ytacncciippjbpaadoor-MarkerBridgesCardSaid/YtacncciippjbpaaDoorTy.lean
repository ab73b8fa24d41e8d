/-
  OWN WORK, written by a program of ours (gen_ty.py): the types of this seat, as the engine wants them.
-/
import Derived.Test.YtacncciippjbpaaDoorEngK
namespace Eng
open Go Go.Proofs
set_option linter.unusedVariables false
set_option linter.unusedSimpArgs false
set_option maxRecDepth 100000

def tenv : TypeId → Option TI
  | 1 => some ⟨1, 8, .fn, .val .nilFunc⟩
  | 2 => some ⟨1, 8, .int .i64, .int .i64 0⟩
  | 3 => some ⟨1, 8, .int .i64, .int .i64 0⟩
  | 4 => some ⟨1, 1, .bool, .bool false⟩
  | 5 => some ⟨1, 1, .int .u8, .int .u8 0⟩
  | 6 => some ⟨1, 1, .int .u8, .int .u8 0⟩
  | 7 => some ⟨4, 24, .struct [(0, 2), (1, 3), (2, 4), (3, 6)], .agg [.int .i64 0, .int .i64 0, .bool false, .int .u8 0]⟩
  | 8 => some ⟨4, 24, .struct [(0, 2), (1, 3), (2, 4), (3, 6)], .agg [.int .i64 0, .int .i64 0, .bool false, .int .u8 0]⟩
  | 9 => some ⟨1, 16, .str, .str []⟩
  | 10 => some ⟨1, 16, .str, .str []⟩
  | 11 => some ⟨1, 16, .str, .str []⟩
  | 12 => some ⟨1, 8, .int .u64, .int .u64 0⟩
  | 13 => some ⟨2, 24, .struct [(0, 9), (1, 12)], .agg [.str [], .int .u64 0]⟩
  | 14 => some ⟨2, 24, .struct [(0, 9), (1, 12)], .agg [.str [], .int .u64 0]⟩
  | 15 => some ⟨1, 8, .ptr 103, .val (.pointer none)⟩
  | 16 => some ⟨1, 8, .ptr 106, .val (.pointer none)⟩
  | 17 => some ⟨1, 8, .ptr 114, .val (.pointer none)⟩
  | 18 => some ⟨1, 8, .struct [(0, 17)], .agg [.val (.pointer none)]⟩
  | 19 => some ⟨1, 8, .struct [(0, 17)], .agg [.val (.pointer none)]⟩
  | 20 => some ⟨1, 16, .iface, .val .nilIface⟩
  | 21 => some ⟨1, 4, .int .i32, .int .i32 0⟩
  | 22 => some ⟨1, 8, .fn, .val .nilFunc⟩
  | 23 => some ⟨1, 8, .int .i64, .int .i64 0⟩
  | 25 => some ⟨1, 8, .fn, .val .nilFunc⟩
  | 26 => some ⟨1, 8, .fn, .val .nilFunc⟩
  | 27 => some ⟨1, 8, .fn, .val .nilFunc⟩
  | 28 => some ⟨1, 24, .slice 71, nilSlice⟩
  | 29 => some ⟨1, 24, .slice 3, nilSlice⟩
  | 30 => some ⟨1, 8, .fn, .val .nilFunc⟩
  | 31 => some ⟨1, 8, .ptr 62, .val (.pointer none)⟩
  | 33 => some ⟨1, 8, .fn, .val .nilFunc⟩
  | 34 => some ⟨1, 8, .ptr 46, .val (.pointer none)⟩
  | 36 => some ⟨1, 8, .fn, .val .nilFunc⟩
  | 37 => some ⟨1, 8, .fn, .val .nilFunc⟩
  | 38 => some ⟨1, 8, .fn, .val .nilFunc⟩
  | 39 => some ⟨1, 8, .fn, .val .nilFunc⟩
  | 40 => some ⟨1, 24, .slice 50, nilSlice⟩
  | 42 => some ⟨1, 8, .fn, .val .nilFunc⟩
  | 43 => some ⟨1, 8, .fn, .val .nilFunc⟩
  | 44 => some ⟨1, 8, .fn, .val .nilFunc⟩
  | 45 => some ⟨7, 72, .struct [(0, 3), (1, 29), (2, 4), (3, 3), (4, 4), (5, 3), (6, 3)], .agg [.int .i64 0, nilSlice, .bool false, .int .i64 0, .bool false, .int .i64 0, .int .i64 0]⟩
  | 46 => some ⟨7, 72, .struct [(0, 3), (1, 29), (2, 4), (3, 3), (4, 4), (5, 3), (6, 3)], .agg [.int .i64 0, nilSlice, .bool false, .int .i64 0, .bool false, .int .i64 0, .int .i64 0]⟩
  | 47 => some ⟨1, 8, .fn, .val .nilFunc⟩
  | 48 => some ⟨1, 8, .fn, .val .nilFunc⟩
  | 49 => some ⟨3, 40, .struct [(0, 2), (1, 3), (2, 29)], .agg [.int .i64 0, .int .i64 0, nilSlice]⟩
  | 50 => some ⟨3, 40, .struct [(0, 2), (1, 3), (2, 29)], .agg [.int .i64 0, .int .i64 0, nilSlice]⟩
  | 51 => some ⟨1, 24, .slice 29, nilSlice⟩
  | 52 => some ⟨1, 24, .slice 55, nilSlice⟩
  | 53 => some ⟨1, 24, .slice 5, nilSlice⟩
  | 54 => some ⟨1, 8, .fn, .val .nilFunc⟩
  | 55 => some ⟨1, 4, .int .u32, .int .u32 0⟩
  | 56 => some ⟨1, 8, .int .u64, .int .u64 0⟩
  | 57 => some ⟨1, 8, .fn, .val .nilFunc⟩
  | 58 => some ⟨1, 8, .fn, .val .nilFunc⟩
  | 59 => some ⟨1, 8, .ptr 69, .val (.pointer none)⟩
  | 60 => some ⟨1, 8, .fn, .val .nilFunc⟩
  | 61 => some ⟨8, 80, .struct [(0, 59), (1, 3), (2, 29), (3, 2), (4, 4), (5, 3), (6, 3), (7, 60)], .agg [.val (.pointer none), .int .i64 0, nilSlice, .int .i64 0, .bool false, .int .i64 0, .int .i64 0, .val .nilFunc]⟩
  | 62 => some ⟨8, 80, .struct [(0, 59), (1, 3), (2, 29), (3, 2), (4, 4), (5, 3), (6, 3), (7, 60)], .agg [.val (.pointer none), .int .i64 0, nilSlice, .int .i64 0, .bool false, .int .i64 0, .int .i64 0, .val .nilFunc]⟩
  | 63 => some ⟨1, 24, .slice 31, nilSlice⟩
  | 64 => some ⟨1, 8, .fn, .val .nilFunc⟩
  | 65 => some ⟨1, 8, .fn, .val .nilFunc⟩
  | 66 => some ⟨1, 8, .fn, .val .nilFunc⟩
  | 67 => some ⟨1, 8, .fn, .val .nilFunc⟩
  | 68 => some ⟨2, 16, .struct [(0, 2), (1, 4)], .agg [.int .i64 0, .bool false]⟩
  | 69 => some ⟨2, 16, .struct [(0, 2), (1, 4)], .agg [.int .i64 0, .bool false]⟩
  | 70 => some ⟨4, 64, .struct [(0, 4), (1, 29), (2, 29), (3, 3)], .agg [.bool false, nilSlice, nilSlice, .int .i64 0]⟩
  | 71 => some ⟨4, 64, .struct [(0, 4), (1, 29), (2, 29), (3, 3)], .agg [.bool false, nilSlice, nilSlice, .int .i64 0]⟩
  | 72 => some ⟨1, 8, .fn, .val .nilFunc⟩
  | 73 => some ⟨1, 8, .fn, .val .nilFunc⟩
  | 74 => some ⟨1, 8, .fn, .val .nilFunc⟩
  | 75 => some ⟨1, 8, .fn, .val .nilFunc⟩
  | 77 => some ⟨1, 8, .fn, .val .nilFunc⟩
  | 78 => some ⟨1, 8, .fn, .val .nilFunc⟩
  | 79 => some ⟨256, 256, .arr 256 4, .arr 256 1 fun _ => .bool false⟩
  | 80 => some ⟨256, 256, .arr 256 4, .arr 256 1 fun _ => .bool false⟩
  | 82 => some ⟨1, 8, .fn, .val .nilFunc⟩
  | 83 => some ⟨1, 8, .fn, .val .nilFunc⟩
  | 84 => some ⟨1, 8, .ptr 80, .val (.pointer none)⟩
  | 85 => some ⟨32, 32, .arr 32 5, .arr 32 1 fun _ => .int .u8 0⟩
  | 86 => some ⟨1, 8, .fn, .val .nilFunc⟩
  | 87 => some ⟨1, 8, .fn, .val .nilFunc⟩
  | 88 => some ⟨1, 8, .fn, .val .nilFunc⟩
  | 89 => some ⟨1, 8, .fn, .val .nilFunc⟩
  | 91 => some ⟨1, 8, .fn, .val .nilFunc⟩
  | 92 => some ⟨1, 8, .fn, .val .nilFunc⟩
  | 93 => some ⟨1, 8, .fn, .val .nilFunc⟩
  | 94 => some ⟨256, 256, .arr 256 5, .arr 256 1 fun _ => .int .u8 0⟩
  | 95 => some ⟨2, 2, .struct [(0, 5), (1, 5)], .agg [.int .u8 0, .int .u8 0]⟩
  | 96 => some ⟨2, 2, .struct [(0, 5), (1, 5)], .agg [.int .u8 0, .int .u8 0]⟩
  | 97 => some ⟨32, 32, .arr 16 96, .arr 16 2 fun _ => .agg [.int .u8 0, .int .u8 0]⟩
  | 98 => some ⟨1, 8, .fn, .val .nilFunc⟩
  | 99 => some ⟨1, 8, .fn, .val .nilFunc⟩
  | 100 => some ⟨1, 8, .fn, .val .nilFunc⟩
  | 101 => some ⟨1, 8, .fn, .val .nilFunc⟩
  | 102 => some ⟨4, 40, .struct [(0, 17), (1, 17), (2, 17), (3, 9)], .agg [.val (.pointer none), .val (.pointer none), .val (.pointer none), .str []]⟩
  | 103 => some ⟨4, 40, .struct [(0, 17), (1, 17), (2, 17), (3, 9)], .agg [.val (.pointer none), .val (.pointer none), .val (.pointer none), .str []]⟩
  | 104 => some ⟨0, 0, .arr 0 16, .arr 0 1 fun _ => .val (.pointer none)⟩
  | 107 => some ⟨1, 1, .int .u8, .int .u8 0⟩
  | 108 => some ⟨1, 1, .int .u8, .int .u8 0⟩
  | 109 => some ⟨1, 8, .fn, .val .nilFunc⟩
  | 110 => some ⟨1, 8, .ptr 5, .val (.pointer none)⟩
  | 111 => some ⟨1, 4, .int .i32, .int .i32 0⟩
  | 112 => some ⟨1, 4, .int .i32, .int .i32 0⟩
  | 113 => some ⟨11, 48, .struct [(0, 12), (1, 12), (2, 55), (3, 107), (4, 5), (5, 5), (6, 108), (7, 109), (8, 110), (9, 111), (10, 112)], .agg [.int .u64 0, .int .u64 0, .int .u32 0, .int .u8 0, .int .u8 0, .int .u8 0, .int .u8 0, .val .nilFunc, .val (.pointer none), .int .i32 0, .int .i32 0]⟩
  | 114 => some ⟨11, 48, .struct [(0, 12), (1, 12), (2, 55), (3, 107), (4, 5), (5, 5), (6, 108), (7, 109), (8, 110), (9, 111), (10, 112)], .agg [.int .u64 0, .int .u64 0, .int .u32 0, .int .u8 0, .int .u8 0, .int .u8 0, .int .u8 0, .val .nilFunc, .val (.pointer none), .int .i32 0, .int .i32 0]⟩
  | _ => none
theorem ty1 : ∃ i d, TOk Tryd.prog 1 ⟨1, 8, .fn, .val .nilFunc⟩ i d := by
  refine ⟨Tryd.t1, _, ⟨by kernel_rfl, Tryd.underlying1, by kernel_rfl, by kernel_rfl, by kernel_rfl, ?_, by kernel_rfl, by kernel_rfl, ?_⟩⟩
  · simp [SV.wf, nilSlice]
  · exact ⟨_, _, _, rfl⟩
theorem ty2 : ∃ i d, TOk Tryd.prog 2 ⟨1, 8, .int .i64, .int .i64 0⟩ i d := by
  refine ⟨Tryd.t2, _, ⟨by kernel_rfl, Tryd.underlying2, by kernel_rfl, by kernel_rfl, by kernel_rfl, ?_, by kernel_rfl, by kernel_rfl, ?_⟩⟩
  · simp [SV.wf, nilSlice]
  · rfl
theorem ty3 : ∃ i d, TOk Tryd.prog 3 ⟨1, 8, .int .i64, .int .i64 0⟩ i d := by
  refine ⟨Tryd.t3, _, ⟨by kernel_rfl, Tryd.underlying3, by kernel_rfl, by kernel_rfl, by kernel_rfl, ?_, by kernel_rfl, by kernel_rfl, ?_⟩⟩
  · simp [SV.wf, nilSlice]
  · rfl
theorem ty4 : ∃ i d, TOk Tryd.prog 4 ⟨1, 1, .bool, .bool false⟩ i d := by
  refine ⟨Tryd.t4, _, ⟨by kernel_rfl, Tryd.underlying4, by kernel_rfl, by kernel_rfl, by kernel_rfl, ?_, by kernel_rfl, by kernel_rfl, ?_⟩⟩
  · simp [SV.wf, nilSlice]
  · rfl
theorem ty5 : ∃ i d, TOk Tryd.prog 5 ⟨1, 1, .int .u8, .int .u8 0⟩ i d := by
  refine ⟨Tryd.t5, _, ⟨by kernel_rfl, Tryd.underlying5, by kernel_rfl, by kernel_rfl, by kernel_rfl, ?_, by kernel_rfl, by kernel_rfl, ?_⟩⟩
  · simp [SV.wf, nilSlice]
  · rfl
theorem ty6 : ∃ i d, TOk Tryd.prog 6 ⟨1, 1, .int .u8, .int .u8 0⟩ i d := by
  refine ⟨Tryd.t6, _, ⟨by kernel_rfl, Tryd.underlying6, by kernel_rfl, by kernel_rfl, by kernel_rfl, ?_, by kernel_rfl, by kernel_rfl, ?_⟩⟩
  · simp [SV.wf, nilSlice]
  · rfl
theorem ty7 : ∃ i d, TOk Tryd.prog 7 ⟨4, 24, .struct [(0, 2), (1, 3), (2, 4), (3, 6)], .agg [.int .i64 0, .int .i64 0, .bool false, .int .u8 0]⟩ i d := by
  refine ⟨Tryd.t7, _, ⟨by kernel_rfl, Tryd.underlying7, by kernel_rfl, by kernel_rfl, by kernel_rfl, ?_, by kernel_rfl, by kernel_rfl, ?_⟩⟩
  · simp [SV.wf, SV.wfA, SV.nt, nilSlice, SV.sz, SV.sz.szL]
  · exact kok_struct _ _ _ rfl (by kernel_rfl) (by kernel_rfl)
theorem ty8 : ∃ i d, TOk Tryd.prog 8 ⟨4, 24, .struct [(0, 2), (1, 3), (2, 4), (3, 6)], .agg [.int .i64 0, .int .i64 0, .bool false, .int .u8 0]⟩ i d := by
  refine ⟨Tryd.t8, _, ⟨by kernel_rfl, Tryd.underlying8, by kernel_rfl, by kernel_rfl, by kernel_rfl, ?_, by kernel_rfl, by kernel_rfl, ?_⟩⟩
  · simp [SV.wf, SV.wfA, SV.nt, nilSlice, SV.sz, SV.sz.szL]
  · exact kok_struct _ _ _ rfl (by kernel_rfl) (by kernel_rfl)
theorem ty9 : ∃ i d, TOk Tryd.prog 9 ⟨1, 16, .str, .str []⟩ i d := by
  refine ⟨Tryd.t9, _, ⟨by kernel_rfl, Tryd.underlying9, by kernel_rfl, by kernel_rfl, by kernel_rfl, ?_, by kernel_rfl, by kernel_rfl, ?_⟩⟩
  · simp [SV.wf, nilSlice]
  · rfl
theorem ty10 : ∃ i d, TOk Tryd.prog 10 ⟨1, 16, .str, .str []⟩ i d := by
  refine ⟨Tryd.t10, _, ⟨by kernel_rfl, Tryd.underlying10, by kernel_rfl, by kernel_rfl, by kernel_rfl, ?_, by kernel_rfl, by kernel_rfl, ?_⟩⟩
  · simp [SV.wf, nilSlice]
  · rfl
theorem ty11 : ∃ i d, TOk Tryd.prog 11 ⟨1, 16, .str, .str []⟩ i d := by
  refine ⟨Tryd.t11, _, ⟨by kernel_rfl, Tryd.underlying11, by kernel_rfl, by kernel_rfl, by kernel_rfl, ?_, by kernel_rfl, by kernel_rfl, ?_⟩⟩
  · simp [SV.wf, nilSlice]
  · rfl
theorem ty12 : ∃ i d, TOk Tryd.prog 12 ⟨1, 8, .int .u64, .int .u64 0⟩ i d := by
  refine ⟨Tryd.t12, _, ⟨by kernel_rfl, Tryd.underlying12, by kernel_rfl, by kernel_rfl, by kernel_rfl, ?_, by kernel_rfl, by kernel_rfl, ?_⟩⟩
  · simp [SV.wf, nilSlice]
  · rfl
theorem ty13 : ∃ i d, TOk Tryd.prog 13 ⟨2, 24, .struct [(0, 9), (1, 12)], .agg [.str [], .int .u64 0]⟩ i d := by
  refine ⟨Tryd.t13, _, ⟨by kernel_rfl, Tryd.underlying13, by kernel_rfl, by kernel_rfl, by kernel_rfl, ?_, by kernel_rfl, by kernel_rfl, ?_⟩⟩
  · simp [SV.wf, SV.wfA, SV.nt, nilSlice, SV.sz, SV.sz.szL]
  · exact kok_struct _ _ _ rfl (by kernel_rfl) (by kernel_rfl)
theorem ty14 : ∃ i d, TOk Tryd.prog 14 ⟨2, 24, .struct [(0, 9), (1, 12)], .agg [.str [], .int .u64 0]⟩ i d := by
  refine ⟨Tryd.t14, _, ⟨by kernel_rfl, Tryd.underlying14, by kernel_rfl, by kernel_rfl, by kernel_rfl, ?_, by kernel_rfl, by kernel_rfl, ?_⟩⟩
  · simp [SV.wf, SV.wfA, SV.nt, nilSlice, SV.sz, SV.sz.szL]
  · exact kok_struct _ _ _ rfl (by kernel_rfl) (by kernel_rfl)
theorem ty15 : ∃ i d, TOk Tryd.prog 15 ⟨1, 8, .ptr 103, .val (.pointer none)⟩ i d := by
  refine ⟨Tryd.t15, _, ⟨by kernel_rfl, Tryd.underlying15, by kernel_rfl, by kernel_rfl, by kernel_rfl, ?_, by kernel_rfl, by kernel_rfl, ?_⟩⟩
  · simp [SV.wf, nilSlice]
  · rfl
theorem ty16 : ∃ i d, TOk Tryd.prog 16 ⟨1, 8, .ptr 106, .val (.pointer none)⟩ i d := by
  refine ⟨Tryd.t16, _, ⟨by kernel_rfl, Tryd.underlying16, by kernel_rfl, by kernel_rfl, by kernel_rfl, ?_, by kernel_rfl, by kernel_rfl, ?_⟩⟩
  · simp [SV.wf, nilSlice]
  · rfl
theorem ty17 : ∃ i d, TOk Tryd.prog 17 ⟨1, 8, .ptr 114, .val (.pointer none)⟩ i d := by
  refine ⟨Tryd.t17, _, ⟨by kernel_rfl, Tryd.underlying17, by kernel_rfl, by kernel_rfl, by kernel_rfl, ?_, by kernel_rfl, by kernel_rfl, ?_⟩⟩
  · simp [SV.wf, nilSlice]
  · rfl
theorem ty18 : ∃ i d, TOk Tryd.prog 18 ⟨1, 8, .struct [(0, 17)], .agg [.val (.pointer none)]⟩ i d := by
  refine ⟨Tryd.t18, _, ⟨by kernel_rfl, Tryd.underlying18, by kernel_rfl, by kernel_rfl, by kernel_rfl, ?_, by kernel_rfl, by kernel_rfl, ?_⟩⟩
  · simp [SV.wf, SV.wfA, SV.nt, nilSlice, SV.sz, SV.sz.szL]
  · exact kok_struct _ _ _ rfl (by kernel_rfl) (by kernel_rfl)
theorem ty19 : ∃ i d, TOk Tryd.prog 19 ⟨1, 8, .struct [(0, 17)], .agg [.val (.pointer none)]⟩ i d := by
  refine ⟨Tryd.t19, _, ⟨by kernel_rfl, Tryd.underlying19, by kernel_rfl, by kernel_rfl, by kernel_rfl, ?_, by kernel_rfl, by kernel_rfl, ?_⟩⟩
  · simp [SV.wf, SV.wfA, SV.nt, nilSlice, SV.sz, SV.sz.szL]
  · exact kok_struct _ _ _ rfl (by kernel_rfl) (by kernel_rfl)
theorem ty20 : ∃ i d, TOk Tryd.prog 20 ⟨1, 16, .iface, .val .nilIface⟩ i d := by
  refine ⟨Tryd.t20, _, ⟨by kernel_rfl, Tryd.underlying20, by kernel_rfl, by kernel_rfl, by kernel_rfl, ?_, by kernel_rfl, by kernel_rfl, ?_⟩⟩
  · simp [SV.wf, nilSlice]
  · exact ⟨_, rfl⟩
theorem ty21 : ∃ i d, TOk Tryd.prog 21 ⟨1, 4, .int .i32, .int .i32 0⟩ i d := by
  refine ⟨Tryd.t21, _, ⟨by kernel_rfl, Tryd.underlying21, by kernel_rfl, by kernel_rfl, by kernel_rfl, ?_, by kernel_rfl, by kernel_rfl, ?_⟩⟩
  · simp [SV.wf, nilSlice]
  · rfl
theorem ty22 : ∃ i d, TOk Tryd.prog 22 ⟨1, 8, .fn, .val .nilFunc⟩ i d := by
  refine ⟨Tryd.t22, _, ⟨by kernel_rfl, Tryd.underlying22, by kernel_rfl, by kernel_rfl, by kernel_rfl, ?_, by kernel_rfl, by kernel_rfl, ?_⟩⟩
  · simp [SV.wf, nilSlice]
  · exact ⟨_, _, _, rfl⟩
theorem ty23 : ∃ i d, TOk Tryd.prog 23 ⟨1, 8, .int .i64, .int .i64 0⟩ i d := by
  refine ⟨Tryd.t23, _, ⟨by kernel_rfl, Tryd.underlying23, by kernel_rfl, by kernel_rfl, by kernel_rfl, ?_, by kernel_rfl, by kernel_rfl, ?_⟩⟩
  · simp [SV.wf, nilSlice]
  · rfl
theorem ty25 : ∃ i d, TOk Tryd.prog 25 ⟨1, 8, .fn, .val .nilFunc⟩ i d := by
  refine ⟨Tryd.t25, _, ⟨by kernel_rfl, Tryd.underlying25, by kernel_rfl, by kernel_rfl, by kernel_rfl, ?_, by kernel_rfl, by kernel_rfl, ?_⟩⟩
  · simp [SV.wf, nilSlice]
  · exact ⟨_, _, _, rfl⟩
theorem ty26 : ∃ i d, TOk Tryd.prog 26 ⟨1, 8, .fn, .val .nilFunc⟩ i d := by
  refine ⟨Tryd.t26, _, ⟨by kernel_rfl, Tryd.underlying26, by kernel_rfl, by kernel_rfl, by kernel_rfl, ?_, by kernel_rfl, by kernel_rfl, ?_⟩⟩
  · simp [SV.wf, nilSlice]
  · exact ⟨_, _, _, rfl⟩
theorem ty27 : ∃ i d, TOk Tryd.prog 27 ⟨1, 8, .fn, .val .nilFunc⟩ i d := by
  refine ⟨Tryd.t27, _, ⟨by kernel_rfl, Tryd.underlying27, by kernel_rfl, by kernel_rfl, by kernel_rfl, ?_, by kernel_rfl, by kernel_rfl, ?_⟩⟩
  · simp [SV.wf, nilSlice]
  · exact ⟨_, _, _, rfl⟩
theorem ty28 : ∃ i d, TOk Tryd.prog 28 ⟨1, 24, .slice 71, nilSlice⟩ i d := by
  refine ⟨Tryd.t28, _, ⟨by kernel_rfl, Tryd.underlying28, by kernel_rfl, by kernel_rfl, by kernel_rfl, ?_, by kernel_rfl, by kernel_rfl, ?_⟩⟩
  · simp [SV.wf, nilSlice]
  · rfl
theorem ty29 : ∃ i d, TOk Tryd.prog 29 ⟨1, 24, .slice 3, nilSlice⟩ i d := by
  refine ⟨Tryd.t29, _, ⟨by kernel_rfl, Tryd.underlying29, by kernel_rfl, by kernel_rfl, by kernel_rfl, ?_, by kernel_rfl, by kernel_rfl, ?_⟩⟩
  · simp [SV.wf, nilSlice]
  · rfl
theorem ty30 : ∃ i d, TOk Tryd.prog 30 ⟨1, 8, .fn, .val .nilFunc⟩ i d := by
  refine ⟨Tryd.t30, _, ⟨by kernel_rfl, Tryd.underlying30, by kernel_rfl, by kernel_rfl, by kernel_rfl, ?_, by kernel_rfl, by kernel_rfl, ?_⟩⟩
  · simp [SV.wf, nilSlice]
  · exact ⟨_, _, _, rfl⟩
theorem ty31 : ∃ i d, TOk Tryd.prog 31 ⟨1, 8, .ptr 62, .val (.pointer none)⟩ i d := by
  refine ⟨Tryd.t31, _, ⟨by kernel_rfl, Tryd.underlying31, by kernel_rfl, by kernel_rfl, by kernel_rfl, ?_, by kernel_rfl, by kernel_rfl, ?_⟩⟩
  · simp [SV.wf, nilSlice]
  · rfl
theorem ty33 : ∃ i d, TOk Tryd.prog 33 ⟨1, 8, .fn, .val .nilFunc⟩ i d := by
  refine ⟨Tryd.t33, _, ⟨by kernel_rfl, Tryd.underlying33, by kernel_rfl, by kernel_rfl, by kernel_rfl, ?_, by kernel_rfl, by kernel_rfl, ?_⟩⟩
  · simp [SV.wf, nilSlice]
  · exact ⟨_, _, _, rfl⟩
theorem ty34 : ∃ i d, TOk Tryd.prog 34 ⟨1, 8, .ptr 46, .val (.pointer none)⟩ i d := by
  refine ⟨Tryd.t34, _, ⟨by kernel_rfl, Tryd.underlying34, by kernel_rfl, by kernel_rfl, by kernel_rfl, ?_, by kernel_rfl, by kernel_rfl, ?_⟩⟩
  · simp [SV.wf, nilSlice]
  · rfl
theorem ty36 : ∃ i d, TOk Tryd.prog 36 ⟨1, 8, .fn, .val .nilFunc⟩ i d := by
  refine ⟨Tryd.t36, _, ⟨by kernel_rfl, Tryd.underlying36, by kernel_rfl, by kernel_rfl, by kernel_rfl, ?_, by kernel_rfl, by kernel_rfl, ?_⟩⟩
  · simp [SV.wf, nilSlice]
  · exact ⟨_, _, _, rfl⟩
theorem ty37 : ∃ i d, TOk Tryd.prog 37 ⟨1, 8, .fn, .val .nilFunc⟩ i d := by
  refine ⟨Tryd.t37, _, ⟨by kernel_rfl, Tryd.underlying37, by kernel_rfl, by kernel_rfl, by kernel_rfl, ?_, by kernel_rfl, by kernel_rfl, ?_⟩⟩
  · simp [SV.wf, nilSlice]
  · exact ⟨_, _, _, rfl⟩
theorem ty38 : ∃ i d, TOk Tryd.prog 38 ⟨1, 8, .fn, .val .nilFunc⟩ i d := by
  refine ⟨Tryd.t38, _, ⟨by kernel_rfl, Tryd.underlying38, by kernel_rfl, by kernel_rfl, by kernel_rfl, ?_, by kernel_rfl, by kernel_rfl, ?_⟩⟩
  · simp [SV.wf, nilSlice]
  · exact ⟨_, _, _, rfl⟩
theorem ty39 : ∃ i d, TOk Tryd.prog 39 ⟨1, 8, .fn, .val .nilFunc⟩ i d := by
  refine ⟨Tryd.t39, _, ⟨by kernel_rfl, Tryd.underlying39, by kernel_rfl, by kernel_rfl, by kernel_rfl, ?_, by kernel_rfl, by kernel_rfl, ?_⟩⟩
  · simp [SV.wf, nilSlice]
  · exact ⟨_, _, _, rfl⟩
theorem ty40 : ∃ i d, TOk Tryd.prog 40 ⟨1, 24, .slice 50, nilSlice⟩ i d := by
  refine ⟨Tryd.t40, _, ⟨by kernel_rfl, Tryd.underlying40, by kernel_rfl, by kernel_rfl, by kernel_rfl, ?_, by kernel_rfl, by kernel_rfl, ?_⟩⟩
  · simp [SV.wf, nilSlice]
  · rfl
theorem ty42 : ∃ i d, TOk Tryd.prog 42 ⟨1, 8, .fn, .val .nilFunc⟩ i d := by
  refine ⟨Tryd.t42, _, ⟨by kernel_rfl, Tryd.underlying42, by kernel_rfl, by kernel_rfl, by kernel_rfl, ?_, by kernel_rfl, by kernel_rfl, ?_⟩⟩
  · simp [SV.wf, nilSlice]
  · exact ⟨_, _, _, rfl⟩
theorem ty43 : ∃ i d, TOk Tryd.prog 43 ⟨1, 8, .fn, .val .nilFunc⟩ i d := by
  refine ⟨Tryd.t43, _, ⟨by kernel_rfl, Tryd.underlying43, by kernel_rfl, by kernel_rfl, by kernel_rfl, ?_, by kernel_rfl, by kernel_rfl, ?_⟩⟩
  · simp [SV.wf, nilSlice]
  · exact ⟨_, _, _, rfl⟩
theorem ty44 : ∃ i d, TOk Tryd.prog 44 ⟨1, 8, .fn, .val .nilFunc⟩ i d := by
  refine ⟨Tryd.t44, _, ⟨by kernel_rfl, Tryd.underlying44, by kernel_rfl, by kernel_rfl, by kernel_rfl, ?_, by kernel_rfl, by kernel_rfl, ?_⟩⟩
  · simp [SV.wf, nilSlice]
  · exact ⟨_, _, _, rfl⟩
theorem ty45 : ∃ i d, TOk Tryd.prog 45 ⟨7, 72, .struct [(0, 3), (1, 29), (2, 4), (3, 3), (4, 4), (5, 3), (6, 3)], .agg [.int .i64 0, nilSlice, .bool false, .int .i64 0, .bool false, .int .i64 0, .int .i64 0]⟩ i d := by
  refine ⟨Tryd.t45, _, ⟨by kernel_rfl, Tryd.underlying45, by kernel_rfl, by kernel_rfl, by kernel_rfl, ?_, by kernel_rfl, by kernel_rfl, ?_⟩⟩
  · simp [SV.wf, SV.wfA, SV.nt, nilSlice, SV.sz, SV.sz.szL]
  · exact kok_struct _ _ _ rfl (by kernel_rfl) (by kernel_rfl)
theorem ty46 : ∃ i d, TOk Tryd.prog 46 ⟨7, 72, .struct [(0, 3), (1, 29), (2, 4), (3, 3), (4, 4), (5, 3), (6, 3)], .agg [.int .i64 0, nilSlice, .bool false, .int .i64 0, .bool false, .int .i64 0, .int .i64 0]⟩ i d := by
  refine ⟨Tryd.t46, _, ⟨by kernel_rfl, Tryd.underlying46, by kernel_rfl, by kernel_rfl, by kernel_rfl, ?_, by kernel_rfl, by kernel_rfl, ?_⟩⟩
  · simp [SV.wf, SV.wfA, SV.nt, nilSlice, SV.sz, SV.sz.szL]
  · exact kok_struct _ _ _ rfl (by kernel_rfl) (by kernel_rfl)
theorem ty47 : ∃ i d, TOk Tryd.prog 47 ⟨1, 8, .fn, .val .nilFunc⟩ i d := by
  refine ⟨Tryd.t47, _, ⟨by kernel_rfl, Tryd.underlying47, by kernel_rfl, by kernel_rfl, by kernel_rfl, ?_, by kernel_rfl, by kernel_rfl, ?_⟩⟩
  · simp [SV.wf, nilSlice]
  · exact ⟨_, _, _, rfl⟩
theorem ty48 : ∃ i d, TOk Tryd.prog 48 ⟨1, 8, .fn, .val .nilFunc⟩ i d := by
  refine ⟨Tryd.t48, _, ⟨by kernel_rfl, Tryd.underlying48, by kernel_rfl, by kernel_rfl, by kernel_rfl, ?_, by kernel_rfl, by kernel_rfl, ?_⟩⟩
  · simp [SV.wf, nilSlice]
  · exact ⟨_, _, _, rfl⟩
theorem ty49 : ∃ i d, TOk Tryd.prog 49 ⟨3, 40, .struct [(0, 2), (1, 3), (2, 29)], .agg [.int .i64 0, .int .i64 0, nilSlice]⟩ i d := by
  refine ⟨Tryd.t49, _, ⟨by kernel_rfl, Tryd.underlying49, by kernel_rfl, by kernel_rfl, by kernel_rfl, ?_, by kernel_rfl, by kernel_rfl, ?_⟩⟩
  · simp [SV.wf, SV.wfA, SV.nt, nilSlice, SV.sz, SV.sz.szL]
  · exact kok_struct _ _ _ rfl (by kernel_rfl) (by kernel_rfl)
theorem ty50 : ∃ i d, TOk Tryd.prog 50 ⟨3, 40, .struct [(0, 2), (1, 3), (2, 29)], .agg [.int .i64 0, .int .i64 0, nilSlice]⟩ i d := by
  refine ⟨Tryd.t50, _, ⟨by kernel_rfl, Tryd.underlying50, by kernel_rfl, by kernel_rfl, by kernel_rfl, ?_, by kernel_rfl, by kernel_rfl, ?_⟩⟩
  · simp [SV.wf, SV.wfA, SV.nt, nilSlice, SV.sz, SV.sz.szL]
  · exact kok_struct _ _ _ rfl (by kernel_rfl) (by kernel_rfl)
theorem ty51 : ∃ i d, TOk Tryd.prog 51 ⟨1, 24, .slice 29, nilSlice⟩ i d := by
  refine ⟨Tryd.t51, _, ⟨by kernel_rfl, Tryd.underlying51, by kernel_rfl, by kernel_rfl, by kernel_rfl, ?_, by kernel_rfl, by kernel_rfl, ?_⟩⟩
  · simp [SV.wf, nilSlice]
  · rfl
theorem ty52 : ∃ i d, TOk Tryd.prog 52 ⟨1, 24, .slice 55, nilSlice⟩ i d := by
  refine ⟨Tryd.t52, _, ⟨by kernel_rfl, Tryd.underlying52, by kernel_rfl, by kernel_rfl, by kernel_rfl, ?_, by kernel_rfl, by kernel_rfl, ?_⟩⟩
  · simp [SV.wf, nilSlice]
  · rfl
theorem ty53 : ∃ i d, TOk Tryd.prog 53 ⟨1, 24, .slice 5, nilSlice⟩ i d := by
  refine ⟨Tryd.t53, _, ⟨by kernel_rfl, Tryd.underlying53, by kernel_rfl, by kernel_rfl, by kernel_rfl, ?_, by kernel_rfl, by kernel_rfl, ?_⟩⟩
  · simp [SV.wf, nilSlice]
  · rfl
theorem ty54 : ∃ i d, TOk Tryd.prog 54 ⟨1, 8, .fn, .val .nilFunc⟩ i d := by
  refine ⟨Tryd.t54, _, ⟨by kernel_rfl, Tryd.underlying54, by kernel_rfl, by kernel_rfl, by kernel_rfl, ?_, by kernel_rfl, by kernel_rfl, ?_⟩⟩
  · simp [SV.wf, nilSlice]
  · exact ⟨_, _, _, rfl⟩
theorem ty55 : ∃ i d, TOk Tryd.prog 55 ⟨1, 4, .int .u32, .int .u32 0⟩ i d := by
  refine ⟨Tryd.t55, _, ⟨by kernel_rfl, Tryd.underlying55, by kernel_rfl, by kernel_rfl, by kernel_rfl, ?_, by kernel_rfl, by kernel_rfl, ?_⟩⟩
  · simp [SV.wf, nilSlice]
  · rfl
theorem ty56 : ∃ i d, TOk Tryd.prog 56 ⟨1, 8, .int .u64, .int .u64 0⟩ i d := by
  refine ⟨Tryd.t56, _, ⟨by kernel_rfl, Tryd.underlying56, by kernel_rfl, by kernel_rfl, by kernel_rfl, ?_, by kernel_rfl, by kernel_rfl, ?_⟩⟩
  · simp [SV.wf, nilSlice]
  · rfl
theorem ty57 : ∃ i d, TOk Tryd.prog 57 ⟨1, 8, .fn, .val .nilFunc⟩ i d := by
  refine ⟨Tryd.t57, _, ⟨by kernel_rfl, Tryd.underlying57, by kernel_rfl, by kernel_rfl, by kernel_rfl, ?_, by kernel_rfl, by kernel_rfl, ?_⟩⟩
  · simp [SV.wf, nilSlice]
  · exact ⟨_, _, _, rfl⟩
theorem ty58 : ∃ i d, TOk Tryd.prog 58 ⟨1, 8, .fn, .val .nilFunc⟩ i d := by
  refine ⟨Tryd.t58, _, ⟨by kernel_rfl, Tryd.underlying58, by kernel_rfl, by kernel_rfl, by kernel_rfl, ?_, by kernel_rfl, by kernel_rfl, ?_⟩⟩
  · simp [SV.wf, nilSlice]
  · exact ⟨_, _, _, rfl⟩
theorem ty59 : ∃ i d, TOk Tryd.prog 59 ⟨1, 8, .ptr 69, .val (.pointer none)⟩ i d := by
  refine ⟨Tryd.t59, _, ⟨by kernel_rfl, Tryd.underlying59, by kernel_rfl, by kernel_rfl, by kernel_rfl, ?_, by kernel_rfl, by kernel_rfl, ?_⟩⟩
  · simp [SV.wf, nilSlice]
  · rfl
theorem ty60 : ∃ i d, TOk Tryd.prog 60 ⟨1, 8, .fn, .val .nilFunc⟩ i d := by
  refine ⟨Tryd.t60, _, ⟨by kernel_rfl, Tryd.underlying60, by kernel_rfl, by kernel_rfl, by kernel_rfl, ?_, by kernel_rfl, by kernel_rfl, ?_⟩⟩
  · simp [SV.wf, nilSlice]
  · exact ⟨_, _, _, rfl⟩
theorem ty61 : ∃ i d, TOk Tryd.prog 61 ⟨8, 80, .struct [(0, 59), (1, 3), (2, 29), (3, 2), (4, 4), (5, 3), (6, 3), (7, 60)], .agg [.val (.pointer none), .int .i64 0, nilSlice, .int .i64 0, .bool false, .int .i64 0, .int .i64 0, .val .nilFunc]⟩ i d := by
  refine ⟨Tryd.t61, _, ⟨by kernel_rfl, Tryd.underlying61, by kernel_rfl, by kernel_rfl, by kernel_rfl, ?_, by kernel_rfl, by kernel_rfl, ?_⟩⟩
  · simp [SV.wf, SV.wfA, SV.nt, nilSlice, SV.sz, SV.sz.szL]
  · exact kok_struct _ _ _ rfl (by kernel_rfl) (by kernel_rfl)
theorem ty62 : ∃ i d, TOk Tryd.prog 62 ⟨8, 80, .struct [(0, 59), (1, 3), (2, 29), (3, 2), (4, 4), (5, 3), (6, 3), (7, 60)], .agg [.val (.pointer none), .int .i64 0, nilSlice, .int .i64 0, .bool false, .int .i64 0, .int .i64 0, .val .nilFunc]⟩ i d := by
  refine ⟨Tryd.t62, _, ⟨by kernel_rfl, Tryd.underlying62, by kernel_rfl, by kernel_rfl, by kernel_rfl, ?_, by kernel_rfl, by kernel_rfl, ?_⟩⟩
  · simp [SV.wf, SV.wfA, SV.nt, nilSlice, SV.sz, SV.sz.szL]
  · exact kok_struct _ _ _ rfl (by kernel_rfl) (by kernel_rfl)
theorem ty63 : ∃ i d, TOk Tryd.prog 63 ⟨1, 24, .slice 31, nilSlice⟩ i d := by
  refine ⟨Tryd.t63, _, ⟨by kernel_rfl, Tryd.underlying63, by kernel_rfl, by kernel_rfl, by kernel_rfl, ?_, by kernel_rfl, by kernel_rfl, ?_⟩⟩
  · simp [SV.wf, nilSlice]
  · rfl
theorem ty64 : ∃ i d, TOk Tryd.prog 64 ⟨1, 8, .fn, .val .nilFunc⟩ i d := by
  refine ⟨Tryd.t64, _, ⟨by kernel_rfl, Tryd.underlying64, by kernel_rfl, by kernel_rfl, by kernel_rfl, ?_, by kernel_rfl, by kernel_rfl, ?_⟩⟩
  · simp [SV.wf, nilSlice]
  · exact ⟨_, _, _, rfl⟩
theorem ty65 : ∃ i d, TOk Tryd.prog 65 ⟨1, 8, .fn, .val .nilFunc⟩ i d := by
  refine ⟨Tryd.t65, _, ⟨by kernel_rfl, Tryd.underlying65, by kernel_rfl, by kernel_rfl, by kernel_rfl, ?_, by kernel_rfl, by kernel_rfl, ?_⟩⟩
  · simp [SV.wf, nilSlice]
  · exact ⟨_, _, _, rfl⟩
theorem ty66 : ∃ i d, TOk Tryd.prog 66 ⟨1, 8, .fn, .val .nilFunc⟩ i d := by
  refine ⟨Tryd.t66, _, ⟨by kernel_rfl, Tryd.underlying66, by kernel_rfl, by kernel_rfl, by kernel_rfl, ?_, by kernel_rfl, by kernel_rfl, ?_⟩⟩
  · simp [SV.wf, nilSlice]
  · exact ⟨_, _, _, rfl⟩
theorem ty67 : ∃ i d, TOk Tryd.prog 67 ⟨1, 8, .fn, .val .nilFunc⟩ i d := by
  refine ⟨Tryd.t67, _, ⟨by kernel_rfl, Tryd.underlying67, by kernel_rfl, by kernel_rfl, by kernel_rfl, ?_, by kernel_rfl, by kernel_rfl, ?_⟩⟩
  · simp [SV.wf, nilSlice]
  · exact ⟨_, _, _, rfl⟩
theorem ty68 : ∃ i d, TOk Tryd.prog 68 ⟨2, 16, .struct [(0, 2), (1, 4)], .agg [.int .i64 0, .bool false]⟩ i d := by
  refine ⟨Tryd.t68, _, ⟨by kernel_rfl, Tryd.underlying68, by kernel_rfl, by kernel_rfl, by kernel_rfl, ?_, by kernel_rfl, by kernel_rfl, ?_⟩⟩
  · simp [SV.wf, SV.wfA, SV.nt, nilSlice, SV.sz, SV.sz.szL]
  · exact kok_struct _ _ _ rfl (by kernel_rfl) (by kernel_rfl)
theorem ty69 : ∃ i d, TOk Tryd.prog 69 ⟨2, 16, .struct [(0, 2), (1, 4)], .agg [.int .i64 0, .bool false]⟩ i d := by
  refine ⟨Tryd.t69, _, ⟨by kernel_rfl, Tryd.underlying69, by kernel_rfl, by kernel_rfl, by kernel_rfl, ?_, by kernel_rfl, by kernel_rfl, ?_⟩⟩
  · simp [SV.wf, SV.wfA, SV.nt, nilSlice, SV.sz, SV.sz.szL]
  · exact kok_struct _ _ _ rfl (by kernel_rfl) (by kernel_rfl)
theorem ty70 : ∃ i d, TOk Tryd.prog 70 ⟨4, 64, .struct [(0, 4), (1, 29), (2, 29), (3, 3)], .agg [.bool false, nilSlice, nilSlice, .int .i64 0]⟩ i d := by
  refine ⟨Tryd.t70, _, ⟨by kernel_rfl, Tryd.underlying70, by kernel_rfl, by kernel_rfl, by kernel_rfl, ?_, by kernel_rfl, by kernel_rfl, ?_⟩⟩
  · simp [SV.wf, SV.wfA, SV.nt, nilSlice, SV.sz, SV.sz.szL]
  · exact kok_struct _ _ _ rfl (by kernel_rfl) (by kernel_rfl)
theorem ty71 : ∃ i d, TOk Tryd.prog 71 ⟨4, 64, .struct [(0, 4), (1, 29), (2, 29), (3, 3)], .agg [.bool false, nilSlice, nilSlice, .int .i64 0]⟩ i d := by
  refine ⟨Tryd.t71, _, ⟨by kernel_rfl, Tryd.underlying71, by kernel_rfl, by kernel_rfl, by kernel_rfl, ?_, by kernel_rfl, by kernel_rfl, ?_⟩⟩
  · simp [SV.wf, SV.wfA, SV.nt, nilSlice, SV.sz, SV.sz.szL]
  · exact kok_struct _ _ _ rfl (by kernel_rfl) (by kernel_rfl)
theorem ty72 : ∃ i d, TOk Tryd.prog 72 ⟨1, 8, .fn, .val .nilFunc⟩ i d := by
  refine ⟨Tryd.t72, _, ⟨by kernel_rfl, Tryd.underlying72, by kernel_rfl, by kernel_rfl, by kernel_rfl, ?_, by kernel_rfl, by kernel_rfl, ?_⟩⟩
  · simp [SV.wf, nilSlice]
  · exact ⟨_, _, _, rfl⟩
theorem ty73 : ∃ i d, TOk Tryd.prog 73 ⟨1, 8, .fn, .val .nilFunc⟩ i d := by
  refine ⟨Tryd.t73, _, ⟨by kernel_rfl, Tryd.underlying73, by kernel_rfl, by kernel_rfl, by kernel_rfl, ?_, by kernel_rfl, by kernel_rfl, ?_⟩⟩
  · simp [SV.wf, nilSlice]
  · exact ⟨_, _, _, rfl⟩
theorem ty74 : ∃ i d, TOk Tryd.prog 74 ⟨1, 8, .fn, .val .nilFunc⟩ i d := by
  refine ⟨Tryd.t74, _, ⟨by kernel_rfl, Tryd.underlying74, by kernel_rfl, by kernel_rfl, by kernel_rfl, ?_, by kernel_rfl, by kernel_rfl, ?_⟩⟩
  · simp [SV.wf, nilSlice]
  · exact ⟨_, _, _, rfl⟩
theorem ty75 : ∃ i d, TOk Tryd.prog 75 ⟨1, 8, .fn, .val .nilFunc⟩ i d := by
  refine ⟨Tryd.t75, _, ⟨by kernel_rfl, Tryd.underlying75, by kernel_rfl, by kernel_rfl, by kernel_rfl, ?_, by kernel_rfl, by kernel_rfl, ?_⟩⟩
  · simp [SV.wf, nilSlice]
  · exact ⟨_, _, _, rfl⟩
theorem ty77 : ∃ i d, TOk Tryd.prog 77 ⟨1, 8, .fn, .val .nilFunc⟩ i d := by
  refine ⟨Tryd.t77, _, ⟨by kernel_rfl, Tryd.underlying77, by kernel_rfl, by kernel_rfl, by kernel_rfl, ?_, by kernel_rfl, by kernel_rfl, ?_⟩⟩
  · simp [SV.wf, nilSlice]
  · exact ⟨_, _, _, rfl⟩
theorem ty78 : ∃ i d, TOk Tryd.prog 78 ⟨1, 8, .fn, .val .nilFunc⟩ i d := by
  refine ⟨Tryd.t78, _, ⟨by kernel_rfl, Tryd.underlying78, by kernel_rfl, by kernel_rfl, by kernel_rfl, ?_, by kernel_rfl, by kernel_rfl, ?_⟩⟩
  · simp [SV.wf, nilSlice]
  · exact ⟨_, _, _, rfl⟩
theorem ty79 : ∃ i d, TOk Tryd.prog 79 ⟨256, 256, .arr 256 4, .arr 256 1 fun _ => .bool false⟩ i d := by
  refine ⟨Tryd.t79, _, ⟨by kernel_rfl, Tryd.underlying79, by kernel_rfl, by kernel_rfl, by kernel_rfl, ?_, by kernel_rfl, by kernel_rfl, ?_⟩⟩
  · simp [SV.wf, SV.wfA, SV.nt, nilSlice, SV.sz, SV.sz.szL]
  · rfl
theorem ty80 : ∃ i d, TOk Tryd.prog 80 ⟨256, 256, .arr 256 4, .arr 256 1 fun _ => .bool false⟩ i d := by
  refine ⟨Tryd.t80, _, ⟨by kernel_rfl, Tryd.underlying80, by kernel_rfl, by kernel_rfl, by kernel_rfl, ?_, by kernel_rfl, by kernel_rfl, ?_⟩⟩
  · simp [SV.wf, SV.wfA, SV.nt, nilSlice, SV.sz, SV.sz.szL]
  · rfl
theorem ty82 : ∃ i d, TOk Tryd.prog 82 ⟨1, 8, .fn, .val .nilFunc⟩ i d := by
  refine ⟨Tryd.t82, _, ⟨by kernel_rfl, Tryd.underlying82, by kernel_rfl, by kernel_rfl, by kernel_rfl, ?_, by kernel_rfl, by kernel_rfl, ?_⟩⟩
  · simp [SV.wf, nilSlice]
  · exact ⟨_, _, _, rfl⟩
theorem ty83 : ∃ i d, TOk Tryd.prog 83 ⟨1, 8, .fn, .val .nilFunc⟩ i d := by
  refine ⟨Tryd.t83, _, ⟨by kernel_rfl, Tryd.underlying83, by kernel_rfl, by kernel_rfl, by kernel_rfl, ?_, by kernel_rfl, by kernel_rfl, ?_⟩⟩
  · simp [SV.wf, nilSlice]
  · exact ⟨_, _, _, rfl⟩
theorem ty84 : ∃ i d, TOk Tryd.prog 84 ⟨1, 8, .ptr 80, .val (.pointer none)⟩ i d := by
  refine ⟨Tryd.t84, _, ⟨by kernel_rfl, Tryd.underlying84, by kernel_rfl, by kernel_rfl, by kernel_rfl, ?_, by kernel_rfl, by kernel_rfl, ?_⟩⟩
  · simp [SV.wf, nilSlice]
  · rfl
theorem ty85 : ∃ i d, TOk Tryd.prog 85 ⟨32, 32, .arr 32 5, .arr 32 1 fun _ => .int .u8 0⟩ i d := by
  refine ⟨Tryd.t85, _, ⟨by kernel_rfl, Tryd.underlying85, by kernel_rfl, by kernel_rfl, by kernel_rfl, ?_, by kernel_rfl, by kernel_rfl, ?_⟩⟩
  · simp [SV.wf, SV.wfA, SV.nt, nilSlice, SV.sz, SV.sz.szL]
  · rfl
theorem ty86 : ∃ i d, TOk Tryd.prog 86 ⟨1, 8, .fn, .val .nilFunc⟩ i d := by
  refine ⟨Tryd.t86, _, ⟨by kernel_rfl, Tryd.underlying86, by kernel_rfl, by kernel_rfl, by kernel_rfl, ?_, by kernel_rfl, by kernel_rfl, ?_⟩⟩
  · simp [SV.wf, nilSlice]
  · exact ⟨_, _, _, rfl⟩
theorem ty87 : ∃ i d, TOk Tryd.prog 87 ⟨1, 8, .fn, .val .nilFunc⟩ i d := by
  refine ⟨Tryd.t87, _, ⟨by kernel_rfl, Tryd.underlying87, by kernel_rfl, by kernel_rfl, by kernel_rfl, ?_, by kernel_rfl, by kernel_rfl, ?_⟩⟩
  · simp [SV.wf, nilSlice]
  · exact ⟨_, _, _, rfl⟩
theorem ty88 : ∃ i d, TOk Tryd.prog 88 ⟨1, 8, .fn, .val .nilFunc⟩ i d := by
  refine ⟨Tryd.t88, _, ⟨by kernel_rfl, Tryd.underlying88, by kernel_rfl, by kernel_rfl, by kernel_rfl, ?_, by kernel_rfl, by kernel_rfl, ?_⟩⟩
  · simp [SV.wf, nilSlice]
  · exact ⟨_, _, _, rfl⟩
theorem ty89 : ∃ i d, TOk Tryd.prog 89 ⟨1, 8, .fn, .val .nilFunc⟩ i d := by
  refine ⟨Tryd.t89, _, ⟨by kernel_rfl, Tryd.underlying89, by kernel_rfl, by kernel_rfl, by kernel_rfl, ?_, by kernel_rfl, by kernel_rfl, ?_⟩⟩
  · simp [SV.wf, nilSlice]
  · exact ⟨_, _, _, rfl⟩
theorem ty91 : ∃ i d, TOk Tryd.prog 91 ⟨1, 8, .fn, .val .nilFunc⟩ i d := by
  refine ⟨Tryd.t91, _, ⟨by kernel_rfl, Tryd.underlying91, by kernel_rfl, by kernel_rfl, by kernel_rfl, ?_, by kernel_rfl, by kernel_rfl, ?_⟩⟩
  · simp [SV.wf, nilSlice]
  · exact ⟨_, _, _, rfl⟩
theorem ty92 : ∃ i d, TOk Tryd.prog 92 ⟨1, 8, .fn, .val .nilFunc⟩ i d := by
  refine ⟨Tryd.t92, _, ⟨by kernel_rfl, Tryd.underlying92, by kernel_rfl, by kernel_rfl, by kernel_rfl, ?_, by kernel_rfl, by kernel_rfl, ?_⟩⟩
  · simp [SV.wf, nilSlice]
  · exact ⟨_, _, _, rfl⟩
theorem ty93 : ∃ i d, TOk Tryd.prog 93 ⟨1, 8, .fn, .val .nilFunc⟩ i d := by
  refine ⟨Tryd.t93, _, ⟨by kernel_rfl, Tryd.underlying93, by kernel_rfl, by kernel_rfl, by kernel_rfl, ?_, by kernel_rfl, by kernel_rfl, ?_⟩⟩
  · simp [SV.wf, nilSlice]
  · exact ⟨_, _, _, rfl⟩
theorem ty94 : ∃ i d, TOk Tryd.prog 94 ⟨256, 256, .arr 256 5, .arr 256 1 fun _ => .int .u8 0⟩ i d := by
  refine ⟨Tryd.t94, _, ⟨by kernel_rfl, Tryd.underlying94, by kernel_rfl, by kernel_rfl, by kernel_rfl, ?_, by kernel_rfl, by kernel_rfl, ?_⟩⟩
  · simp [SV.wf, SV.wfA, SV.nt, nilSlice, SV.sz, SV.sz.szL]
  · rfl
theorem ty95 : ∃ i d, TOk Tryd.prog 95 ⟨2, 2, .struct [(0, 5), (1, 5)], .agg [.int .u8 0, .int .u8 0]⟩ i d := by
  refine ⟨Tryd.t95, _, ⟨by kernel_rfl, Tryd.underlying95, by kernel_rfl, by kernel_rfl, by kernel_rfl, ?_, by kernel_rfl, by kernel_rfl, ?_⟩⟩
  · simp [SV.wf, SV.wfA, SV.nt, nilSlice, SV.sz, SV.sz.szL]
  · exact kok_struct _ _ _ rfl (by kernel_rfl) (by kernel_rfl)
theorem ty96 : ∃ i d, TOk Tryd.prog 96 ⟨2, 2, .struct [(0, 5), (1, 5)], .agg [.int .u8 0, .int .u8 0]⟩ i d := by
  refine ⟨Tryd.t96, _, ⟨by kernel_rfl, Tryd.underlying96, by kernel_rfl, by kernel_rfl, by kernel_rfl, ?_, by kernel_rfl, by kernel_rfl, ?_⟩⟩
  · simp [SV.wf, SV.wfA, SV.nt, nilSlice, SV.sz, SV.sz.szL]
  · exact kok_struct _ _ _ rfl (by kernel_rfl) (by kernel_rfl)
theorem ty97 : ∃ i d, TOk Tryd.prog 97 ⟨32, 32, .arr 16 96, .arr 16 2 fun _ => .agg [.int .u8 0, .int .u8 0]⟩ i d := by
  refine ⟨Tryd.t97, _, ⟨by kernel_rfl, Tryd.underlying97, by kernel_rfl, by kernel_rfl, by kernel_rfl, ?_, by kernel_rfl, by kernel_rfl, ?_⟩⟩
  · simp [SV.wf, SV.wfA, SV.nt, nilSlice, SV.sz, SV.sz.szL]
  · rfl
theorem ty98 : ∃ i d, TOk Tryd.prog 98 ⟨1, 8, .fn, .val .nilFunc⟩ i d := by
  refine ⟨Tryd.t98, _, ⟨by kernel_rfl, Tryd.underlying98, by kernel_rfl, by kernel_rfl, by kernel_rfl, ?_, by kernel_rfl, by kernel_rfl, ?_⟩⟩
  · simp [SV.wf, nilSlice]
  · exact ⟨_, _, _, rfl⟩
theorem ty99 : ∃ i d, TOk Tryd.prog 99 ⟨1, 8, .fn, .val .nilFunc⟩ i d := by
  refine ⟨Tryd.t99, _, ⟨by kernel_rfl, Tryd.underlying99, by kernel_rfl, by kernel_rfl, by kernel_rfl, ?_, by kernel_rfl, by kernel_rfl, ?_⟩⟩
  · simp [SV.wf, nilSlice]
  · exact ⟨_, _, _, rfl⟩
theorem ty100 : ∃ i d, TOk Tryd.prog 100 ⟨1, 8, .fn, .val .nilFunc⟩ i d := by
  refine ⟨Tryd.t100, _, ⟨by kernel_rfl, Tryd.underlying100, by kernel_rfl, by kernel_rfl, by kernel_rfl, ?_, by kernel_rfl, by kernel_rfl, ?_⟩⟩
  · simp [SV.wf, nilSlice]
  · exact ⟨_, _, _, rfl⟩
theorem ty101 : ∃ i d, TOk Tryd.prog 101 ⟨1, 8, .fn, .val .nilFunc⟩ i d := by
  refine ⟨Tryd.t101, _, ⟨by kernel_rfl, Tryd.underlying101, by kernel_rfl, by kernel_rfl, by kernel_rfl, ?_, by kernel_rfl, by kernel_rfl, ?_⟩⟩
  · simp [SV.wf, nilSlice]
  · exact ⟨_, _, _, rfl⟩
theorem ty102 : ∃ i d, TOk Tryd.prog 102 ⟨4, 40, .struct [(0, 17), (1, 17), (2, 17), (3, 9)], .agg [.val (.pointer none), .val (.pointer none), .val (.pointer none), .str []]⟩ i d := by
  refine ⟨Tryd.t102, _, ⟨by kernel_rfl, Tryd.underlying102, by kernel_rfl, by kernel_rfl, by kernel_rfl, ?_, by kernel_rfl, by kernel_rfl, ?_⟩⟩
  · simp [SV.wf, SV.wfA, SV.nt, nilSlice, SV.sz, SV.sz.szL]
  · exact kok_struct _ _ _ rfl (by kernel_rfl) (by kernel_rfl)
theorem ty103 : ∃ i d, TOk Tryd.prog 103 ⟨4, 40, .struct [(0, 17), (1, 17), (2, 17), (3, 9)], .agg [.val (.pointer none), .val (.pointer none), .val (.pointer none), .str []]⟩ i d := by
  refine ⟨Tryd.t103, _, ⟨by kernel_rfl, Tryd.underlying103, by kernel_rfl, by kernel_rfl, by kernel_rfl, ?_, by kernel_rfl, by kernel_rfl, ?_⟩⟩
  · simp [SV.wf, SV.wfA, SV.nt, nilSlice, SV.sz, SV.sz.szL]
  · exact kok_struct _ _ _ rfl (by kernel_rfl) (by kernel_rfl)
theorem ty104 : ∃ i d, TOk Tryd.prog 104 ⟨0, 0, .arr 0 16, .arr 0 1 fun _ => .val (.pointer none)⟩ i d := by
  refine ⟨Tryd.t104, _, ⟨by kernel_rfl, Tryd.underlying104, by kernel_rfl, by kernel_rfl, by kernel_rfl, ?_, by kernel_rfl, by kernel_rfl, ?_⟩⟩
  · simp [SV.wf, SV.wfA, SV.nt, nilSlice, SV.sz, SV.sz.szL]
  · rfl
theorem ty107 : ∃ i d, TOk Tryd.prog 107 ⟨1, 1, .int .u8, .int .u8 0⟩ i d := by
  refine ⟨Tryd.t107, _, ⟨by kernel_rfl, Tryd.underlying107, by kernel_rfl, by kernel_rfl, by kernel_rfl, ?_, by kernel_rfl, by kernel_rfl, ?_⟩⟩
  · simp [SV.wf, nilSlice]
  · rfl
theorem ty108 : ∃ i d, TOk Tryd.prog 108 ⟨1, 1, .int .u8, .int .u8 0⟩ i d := by
  refine ⟨Tryd.t108, _, ⟨by kernel_rfl, Tryd.underlying108, by kernel_rfl, by kernel_rfl, by kernel_rfl, ?_, by kernel_rfl, by kernel_rfl, ?_⟩⟩
  · simp [SV.wf, nilSlice]
  · rfl
theorem ty109 : ∃ i d, TOk Tryd.prog 109 ⟨1, 8, .fn, .val .nilFunc⟩ i d := by
  refine ⟨Tryd.t109, _, ⟨by kernel_rfl, Tryd.underlying109, by kernel_rfl, by kernel_rfl, by kernel_rfl, ?_, by kernel_rfl, by kernel_rfl, ?_⟩⟩
  · simp [SV.wf, nilSlice]
  · exact ⟨_, _, _, rfl⟩
theorem ty110 : ∃ i d, TOk Tryd.prog 110 ⟨1, 8, .ptr 5, .val (.pointer none)⟩ i d := by
  refine ⟨Tryd.t110, _, ⟨by kernel_rfl, Tryd.underlying110, by kernel_rfl, by kernel_rfl, by kernel_rfl, ?_, by kernel_rfl, by kernel_rfl, ?_⟩⟩
  · simp [SV.wf, nilSlice]
  · rfl
theorem ty111 : ∃ i d, TOk Tryd.prog 111 ⟨1, 4, .int .i32, .int .i32 0⟩ i d := by
  refine ⟨Tryd.t111, _, ⟨by kernel_rfl, Tryd.underlying111, by kernel_rfl, by kernel_rfl, by kernel_rfl, ?_, by kernel_rfl, by kernel_rfl, ?_⟩⟩
  · simp [SV.wf, nilSlice]
  · rfl
theorem ty112 : ∃ i d, TOk Tryd.prog 112 ⟨1, 4, .int .i32, .int .i32 0⟩ i d := by
  refine ⟨Tryd.t112, _, ⟨by kernel_rfl, Tryd.underlying112, by kernel_rfl, by kernel_rfl, by kernel_rfl, ?_, by kernel_rfl, by kernel_rfl, ?_⟩⟩
  · simp [SV.wf, nilSlice]
  · rfl
theorem ty113 : ∃ i d, TOk Tryd.prog 113 ⟨11, 48, .struct [(0, 12), (1, 12), (2, 55), (3, 107), (4, 5), (5, 5), (6, 108), (7, 109), (8, 110), (9, 111), (10, 112)], .agg [.int .u64 0, .int .u64 0, .int .u32 0, .int .u8 0, .int .u8 0, .int .u8 0, .int .u8 0, .val .nilFunc, .val (.pointer none), .int .i32 0, .int .i32 0]⟩ i d := by
  refine ⟨Tryd.t113, _, ⟨by kernel_rfl, Tryd.underlying113, by kernel_rfl, by kernel_rfl, by kernel_rfl, ?_, by kernel_rfl, by kernel_rfl, ?_⟩⟩
  · simp [SV.wf, SV.wfA, SV.nt, nilSlice, SV.sz, SV.sz.szL]
  · exact kok_struct _ _ _ rfl (by kernel_rfl) (by kernel_rfl)
theorem ty114 : ∃ i d, TOk Tryd.prog 114 ⟨11, 48, .struct [(0, 12), (1, 12), (2, 55), (3, 107), (4, 5), (5, 5), (6, 108), (7, 109), (8, 110), (9, 111), (10, 112)], .agg [.int .u64 0, .int .u64 0, .int .u32 0, .int .u8 0, .int .u8 0, .int .u8 0, .int .u8 0, .val .nilFunc, .val (.pointer none), .int .i32 0, .int .i32 0]⟩ i d := by
  refine ⟨Tryd.t114, _, ⟨by kernel_rfl, Tryd.underlying114, by kernel_rfl, by kernel_rfl, by kernel_rfl, ?_, by kernel_rfl, by kernel_rfl, ?_⟩⟩
  · simp [SV.wf, SV.wfA, SV.nt, nilSlice, SV.sz, SV.sz.szL]
  · exact kok_struct _ _ _ rfl (by kernel_rfl) (by kernel_rfl)
theorem tenv_ok : ∀ t ti, tenv t = some ti → ∃ i d, TOk Tryd.prog t ti i d := by
  intro t ti h
  unfold tenv at h
  split at h
  · injection h with h; subst h; exact ty1
  · injection h with h; subst h; exact ty2
  · injection h with h; subst h; exact ty3
  · injection h with h; subst h; exact ty4
  · injection h with h; subst h; exact ty5
  · injection h with h; subst h; exact ty6
  · injection h with h; subst h; exact ty7
  · injection h with h; subst h; exact ty8
  · injection h with h; subst h; exact ty9
  · injection h with h; subst h; exact ty10
  · injection h with h; subst h; exact ty11
  · injection h with h; subst h; exact ty12
  · injection h with h; subst h; exact ty13
  · injection h with h; subst h; exact ty14
  · injection h with h; subst h; exact ty15
  · injection h with h; subst h; exact ty16
  · injection h with h; subst h; exact ty17
  · injection h with h; subst h; exact ty18
  · injection h with h; subst h; exact ty19
  · injection h with h; subst h; exact ty20
  · injection h with h; subst h; exact ty21
  · injection h with h; subst h; exact ty22
  · injection h with h; subst h; exact ty23
  · injection h with h; subst h; exact ty25
  · injection h with h; subst h; exact ty26
  · injection h with h; subst h; exact ty27
  · injection h with h; subst h; exact ty28
  · injection h with h; subst h; exact ty29
  · injection h with h; subst h; exact ty30
  · injection h with h; subst h; exact ty31
  · injection h with h; subst h; exact ty33
  · injection h with h; subst h; exact ty34
  · injection h with h; subst h; exact ty36
  · injection h with h; subst h; exact ty37
  · injection h with h; subst h; exact ty38
  · injection h with h; subst h; exact ty39
  · injection h with h; subst h; exact ty40
  · injection h with h; subst h; exact ty42
  · injection h with h; subst h; exact ty43
  · injection h with h; subst h; exact ty44
  · injection h with h; subst h; exact ty45
  · injection h with h; subst h; exact ty46
  · injection h with h; subst h; exact ty47
  · injection h with h; subst h; exact ty48
  · injection h with h; subst h; exact ty49
  · injection h with h; subst h; exact ty50
  · injection h with h; subst h; exact ty51
  · injection h with h; subst h; exact ty52
  · injection h with h; subst h; exact ty53
  · injection h with h; subst h; exact ty54
  · injection h with h; subst h; exact ty55
  · injection h with h; subst h; exact ty56
  · injection h with h; subst h; exact ty57
  · injection h with h; subst h; exact ty58
  · injection h with h; subst h; exact ty59
  · injection h with h; subst h; exact ty60
  · injection h with h; subst h; exact ty61
  · injection h with h; subst h; exact ty62
  · injection h with h; subst h; exact ty63
  · injection h with h; subst h; exact ty64
  · injection h with h; subst h; exact ty65
  · injection h with h; subst h; exact ty66
  · injection h with h; subst h; exact ty67
  · injection h with h; subst h; exact ty68
  · injection h with h; subst h; exact ty69
  · injection h with h; subst h; exact ty70
  · injection h with h; subst h; exact ty71
  · injection h with h; subst h; exact ty72
  · injection h with h; subst h; exact ty73
  · injection h with h; subst h; exact ty74
  · injection h with h; subst h; exact ty75
  · injection h with h; subst h; exact ty77
  · injection h with h; subst h; exact ty78
  · injection h with h; subst h; exact ty79
  · injection h with h; subst h; exact ty80
  · injection h with h; subst h; exact ty82
  · injection h with h; subst h; exact ty83
  · injection h with h; subst h; exact ty84
  · injection h with h; subst h; exact ty85
  · injection h with h; subst h; exact ty86
  · injection h with h; subst h; exact ty87
  · injection h with h; subst h; exact ty88
  · injection h with h; subst h; exact ty89
  · injection h with h; subst h; exact ty91
  · injection h with h; subst h; exact ty92
  · injection h with h; subst h; exact ty93
  · injection h with h; subst h; exact ty94
  · injection h with h; subst h; exact ty95
  · injection h with h; subst h; exact ty96
  · injection h with h; subst h; exact ty97
  · injection h with h; subst h; exact ty98
  · injection h with h; subst h; exact ty99
  · injection h with h; subst h; exact ty100
  · injection h with h; subst h; exact ty101
  · injection h with h; subst h; exact ty102
  · injection h with h; subst h; exact ty103
  · injection h with h; subst h; exact ty104
  · injection h with h; subst h; exact ty107
  · injection h with h; subst h; exact ty108
  · injection h with h; subst h; exact ty109
  · injection h with h; subst h; exact ty110
  · injection h with h; subst h; exact ty111
  · injection h with h; subst h; exact ty112
  · injection h with h; subst h; exact ty113
  · injection h with h; subst h; exact ty114
  · cases h
end Eng
