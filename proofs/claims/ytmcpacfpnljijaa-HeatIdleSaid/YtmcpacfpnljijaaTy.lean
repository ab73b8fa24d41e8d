/-
  OWN WORK, written by a program of ours (gen_ty.py): the types of this seat, as the engine wants them.
-/
import Derived.Test.YtmcpacfpnljijaaEngK
namespace Eng
open Go Go.Proofs
set_option linter.unusedVariables false
set_option linter.unusedSimpArgs false
set_option maxRecDepth 100000

def tenv : TypeId → Option TI
  | 1 => some ⟨1, 8, .fn, .val .nilFunc⟩
  | 2 => some ⟨1, 8, .int .i64, .int .i64 0⟩
  | 3 => some ⟨1, 8, .int .i64, .int .i64 0⟩
  | 4 => some ⟨1, 1, .bool, .bool false⟩
  | 5 => some ⟨1, 1, .int .u8, .int .u8 0⟩
  | 6 => some ⟨1, 1, .int .u8, .int .u8 0⟩
  | 7 => some ⟨4, 24, .struct [(0, 2), (1, 3), (2, 4), (3, 6)], .agg [.int .i64 0, .int .i64 0, .bool false, .int .u8 0]⟩
  | 8 => some ⟨4, 24, .struct [(0, 2), (1, 3), (2, 4), (3, 6)], .agg [.int .i64 0, .int .i64 0, .bool false, .int .u8 0]⟩
  | 9 => some ⟨1, 16, .str, .str []⟩
  | 10 => some ⟨1, 16, .str, .str []⟩
  | 11 => some ⟨1, 16, .str, .str []⟩
  | 12 => some ⟨1, 8, .int .u64, .int .u64 0⟩
  | 13 => some ⟨2, 24, .struct [(0, 9), (1, 12)], .agg [.str [], .int .u64 0]⟩
  | 14 => some ⟨2, 24, .struct [(0, 9), (1, 12)], .agg [.str [], .int .u64 0]⟩
  | 15 => some ⟨1, 8, .ptr 83, .val (.pointer none)⟩
  | 16 => some ⟨1, 8, .ptr 86, .val (.pointer none)⟩
  | 17 => some ⟨1, 8, .ptr 96, .val (.pointer none)⟩
  | 18 => some ⟨1, 8, .struct [(0, 17)], .agg [.val (.pointer none)]⟩
  | 19 => some ⟨1, 8, .struct [(0, 17)], .agg [.val (.pointer none)]⟩
  | 20 => some ⟨1, 16, .iface, .val .nilIface⟩
  | 21 => some ⟨1, 4, .int .i32, .int .i32 0⟩
  | 22 => some ⟨1, 24, .slice 29, nilSlice⟩
  | 23 => some ⟨1, 24, .slice 44, nilSlice⟩
  | 24 => some ⟨1, 24, .slice 47, nilSlice⟩
  | 25 => some ⟨1, 24, .slice 2, nilSlice⟩
  | 26 => some ⟨4, 96, .struct [(0, 22), (1, 23), (2, 24), (3, 25)], .agg [nilSlice, nilSlice, nilSlice, nilSlice]⟩
  | 27 => some ⟨4, 96, .struct [(0, 22), (1, 23), (2, 24), (3, 25)], .agg [nilSlice, nilSlice, nilSlice, nilSlice]⟩
  | 28 => some ⟨2, 16, .struct [(0, 2), (1, 2)], .agg [.int .i64 0, .int .i64 0]⟩
  | 29 => some ⟨2, 16, .struct [(0, 2), (1, 2)], .agg [.int .i64 0, .int .i64 0]⟩
  | 30 => some ⟨1, 8, .fn, .val .nilFunc⟩
  | 31 => some ⟨1, 8, .fn, .val .nilFunc⟩
  | 32 => some ⟨1, 8, .int .i64, .int .i64 0⟩
  | 33 => some ⟨1, 8, .fn, .val .nilFunc⟩
  | 34 => some ⟨1, 8, .fn, .val .nilFunc⟩
  | 35 => some ⟨1, 8, .fn, .val .nilFunc⟩
  | 36 => some ⟨1, 8, .fn, .val .nilFunc⟩
  | 37 => some ⟨1, 8, .fn, .val .nilFunc⟩
  | 38 => some ⟨3, 24, .struct [(0, 2), (1, 2), (2, 2)], .agg [.int .i64 0, .int .i64 0, .int .i64 0]⟩
  | 39 => some ⟨3, 24, .struct [(0, 2), (1, 2), (2, 2)], .agg [.int .i64 0, .int .i64 0, .int .i64 0]⟩
  | 41 => some ⟨1, 8, .fn, .val .nilFunc⟩
  | 42 => some ⟨1, 8, .fn, .val .nilFunc⟩
  | 43 => some ⟨3, 24, .struct [(0, 3), (1, 3), (2, 2)], .agg [.int .i64 0, .int .i64 0, .int .i64 0]⟩
  | 44 => some ⟨3, 24, .struct [(0, 3), (1, 3), (2, 2)], .agg [.int .i64 0, .int .i64 0, .int .i64 0]⟩
  | 45 => some ⟨1, 8, .fn, .val .nilFunc⟩
  | 46 => some ⟨5, 40, .struct [(0, 3), (1, 2), (2, 2), (3, 2), (4, 4)], .agg [.int .i64 0, .int .i64 0, .int .i64 0, .int .i64 0, .bool false]⟩
  | 47 => some ⟨5, 40, .struct [(0, 3), (1, 2), (2, 2), (3, 2), (4, 4)], .agg [.int .i64 0, .int .i64 0, .int .i64 0, .int .i64 0, .bool false]⟩
  | 48 => some ⟨1, 8, .fn, .val .nilFunc⟩
  | 49 => some ⟨1, 8, .fn, .val .nilFunc⟩
  | 50 => some ⟨1, 8, .fn, .val .nilFunc⟩
  | 51 => some ⟨1, 8, .fn, .val .nilFunc⟩
  | 52 => some ⟨1, 8, .fn, .val .nilFunc⟩
  | 53 => some ⟨1, 8, .fn, .val .nilFunc⟩
  | 54 => some ⟨1, 8, .fn, .val .nilFunc⟩
  | 55 => some ⟨1, 8, .fn, .val .nilFunc⟩
  | 56 => some ⟨1, 8, .fn, .val .nilFunc⟩
  | 57 => some ⟨1, 8, .fn, .val .nilFunc⟩
  | 58 => some ⟨1, 8, .fn, .val .nilFunc⟩
  | 59 => some ⟨1, 8, .fn, .val .nilFunc⟩
  | 60 => some ⟨1, 8, .ptr 62, .val (.pointer none)⟩
  | 61 => some ⟨9, 152, .struct [(0, 27), (4, 25), (5, 4), (6, 39)], .agg [.agg [nilSlice, nilSlice, nilSlice, nilSlice], nilSlice, .bool false, .agg [.int .i64 0, .int .i64 0, .int .i64 0]]⟩
  | 62 => some ⟨9, 152, .struct [(0, 27), (4, 25), (5, 4), (6, 39)], .agg [.agg [nilSlice, nilSlice, nilSlice, nilSlice], nilSlice, .bool false, .agg [.int .i64 0, .int .i64 0, .int .i64 0]]⟩
  | 63 => some ⟨1, 8, .fn, .val .nilFunc⟩
  | 64 => some ⟨1, 8, .fn, .val .nilFunc⟩
  | 65 => some ⟨1, 8, .fn, .val .nilFunc⟩
  | 66 => some ⟨1, 8, .fn, .val .nilFunc⟩
  | 67 => some ⟨1, 8, .fn, .val .nilFunc⟩
  | 68 => some ⟨1, 8, .struct [(0, 67)], .agg [.val .nilFunc]⟩
  | 69 => some ⟨1, 8, .struct [(0, 67)], .agg [.val .nilFunc]⟩
  | 70 => some ⟨5, 40, .arr 5 69, .arr 5 1 fun _ => .agg [.val .nilFunc]⟩
  | 71 => some ⟨1, 8, .fn, .val .nilFunc⟩
  | 72 => some ⟨1, 8, .fn, .val .nilFunc⟩
  | 73 => some ⟨1, 8, .fn, .val .nilFunc⟩
  | 74 => some ⟨1, 8, .fn, .val .nilFunc⟩
  | 75 => some ⟨1, 8, .fn, .val .nilFunc⟩
  | 76 => some ⟨1, 8, .fn, .val .nilFunc⟩
  | 77 => some ⟨1, 8, .ptr 47, .val (.pointer none)⟩
  | 78 => some ⟨1, 8, .ptr 29, .val (.pointer none)⟩
  | 79 => some ⟨1, 8, .fn, .val .nilFunc⟩
  | 80 => some ⟨1, 8, .int .u64, .int .u64 0⟩
  | 81 => some ⟨1, 8, .fn, .val .nilFunc⟩
  | 82 => some ⟨4, 40, .struct [(0, 17), (1, 17), (2, 17), (3, 9)], .agg [.val (.pointer none), .val (.pointer none), .val (.pointer none), .str []]⟩
  | 83 => some ⟨4, 40, .struct [(0, 17), (1, 17), (2, 17), (3, 9)], .agg [.val (.pointer none), .val (.pointer none), .val (.pointer none), .str []]⟩
  | 84 => some ⟨0, 0, .arr 0 16, .arr 0 1 fun _ => .val (.pointer none)⟩
  | 87 => some ⟨1, 8, .fn, .val .nilFunc⟩
  | 88 => some ⟨1, 4, .int .u32, .int .u32 0⟩
  | 89 => some ⟨1, 1, .int .u8, .int .u8 0⟩
  | 90 => some ⟨1, 1, .int .u8, .int .u8 0⟩
  | 91 => some ⟨1, 8, .fn, .val .nilFunc⟩
  | 92 => some ⟨1, 8, .ptr 5, .val (.pointer none)⟩
  | 93 => some ⟨1, 4, .int .i32, .int .i32 0⟩
  | 94 => some ⟨1, 4, .int .i32, .int .i32 0⟩
  | 95 => some ⟨11, 48, .struct [(0, 12), (1, 12), (2, 88), (3, 89), (4, 5), (5, 5), (6, 90), (7, 91), (8, 92), (9, 93), (10, 94)], .agg [.int .u64 0, .int .u64 0, .int .u32 0, .int .u8 0, .int .u8 0, .int .u8 0, .int .u8 0, .val .nilFunc, .val (.pointer none), .int .i32 0, .int .i32 0]⟩
  | 96 => some ⟨11, 48, .struct [(0, 12), (1, 12), (2, 88), (3, 89), (4, 5), (5, 5), (6, 90), (7, 91), (8, 92), (9, 93), (10, 94)], .agg [.int .u64 0, .int .u64 0, .int .u32 0, .int .u8 0, .int .u8 0, .int .u8 0, .int .u8 0, .val .nilFunc, .val (.pointer none), .int .i32 0, .int .i32 0]⟩
  | _ => none
theorem ty1 : ∃ i d, TOk Try.prog 1 ⟨1, 8, .fn, .val .nilFunc⟩ i d := by
  refine ⟨Try.t1, _, ⟨by kernel_rfl, Try.underlying1, by kernel_rfl, by kernel_rfl, by kernel_rfl, ?_, by kernel_rfl, by kernel_rfl, ?_⟩⟩
  · simp [SV.wf, nilSlice]
  · exact ⟨_, _, _, rfl⟩
theorem ty2 : ∃ i d, TOk Try.prog 2 ⟨1, 8, .int .i64, .int .i64 0⟩ i d := by
  refine ⟨Try.t2, _, ⟨by kernel_rfl, Try.underlying2, by kernel_rfl, by kernel_rfl, by kernel_rfl, ?_, by kernel_rfl, by kernel_rfl, ?_⟩⟩
  · simp [SV.wf, nilSlice]
  · rfl
theorem ty3 : ∃ i d, TOk Try.prog 3 ⟨1, 8, .int .i64, .int .i64 0⟩ i d := by
  refine ⟨Try.t3, _, ⟨by kernel_rfl, Try.underlying3, by kernel_rfl, by kernel_rfl, by kernel_rfl, ?_, by kernel_rfl, by kernel_rfl, ?_⟩⟩
  · simp [SV.wf, nilSlice]
  · rfl
theorem ty4 : ∃ i d, TOk Try.prog 4 ⟨1, 1, .bool, .bool false⟩ i d := by
  refine ⟨Try.t4, _, ⟨by kernel_rfl, Try.underlying4, by kernel_rfl, by kernel_rfl, by kernel_rfl, ?_, by kernel_rfl, by kernel_rfl, ?_⟩⟩
  · simp [SV.wf, nilSlice]
  · rfl
theorem ty5 : ∃ i d, TOk Try.prog 5 ⟨1, 1, .int .u8, .int .u8 0⟩ i d := by
  refine ⟨Try.t5, _, ⟨by kernel_rfl, Try.underlying5, by kernel_rfl, by kernel_rfl, by kernel_rfl, ?_, by kernel_rfl, by kernel_rfl, ?_⟩⟩
  · simp [SV.wf, nilSlice]
  · rfl
theorem ty6 : ∃ i d, TOk Try.prog 6 ⟨1, 1, .int .u8, .int .u8 0⟩ i d := by
  refine ⟨Try.t6, _, ⟨by kernel_rfl, Try.underlying6, by kernel_rfl, by kernel_rfl, by kernel_rfl, ?_, by kernel_rfl, by kernel_rfl, ?_⟩⟩
  · simp [SV.wf, nilSlice]
  · rfl
theorem ty7 : ∃ i d, TOk Try.prog 7 ⟨4, 24, .struct [(0, 2), (1, 3), (2, 4), (3, 6)], .agg [.int .i64 0, .int .i64 0, .bool false, .int .u8 0]⟩ i d := by
  refine ⟨Try.t7, _, ⟨by kernel_rfl, Try.underlying7, by kernel_rfl, by kernel_rfl, by kernel_rfl, ?_, by kernel_rfl, by kernel_rfl, ?_⟩⟩
  · simp [SV.wf, SV.wfA, SV.nt, nilSlice, SV.sz, SV.sz.szL]
  · exact kok_struct _ _ _ rfl (by kernel_rfl) (by kernel_rfl)
theorem ty8 : ∃ i d, TOk Try.prog 8 ⟨4, 24, .struct [(0, 2), (1, 3), (2, 4), (3, 6)], .agg [.int .i64 0, .int .i64 0, .bool false, .int .u8 0]⟩ i d := by
  refine ⟨Try.t8, _, ⟨by kernel_rfl, Try.underlying8, by kernel_rfl, by kernel_rfl, by kernel_rfl, ?_, by kernel_rfl, by kernel_rfl, ?_⟩⟩
  · simp [SV.wf, SV.wfA, SV.nt, nilSlice, SV.sz, SV.sz.szL]
  · exact kok_struct _ _ _ rfl (by kernel_rfl) (by kernel_rfl)
theorem ty9 : ∃ i d, TOk Try.prog 9 ⟨1, 16, .str, .str []⟩ i d := by
  refine ⟨Try.t9, _, ⟨by kernel_rfl, Try.underlying9, by kernel_rfl, by kernel_rfl, by kernel_rfl, ?_, by kernel_rfl, by kernel_rfl, ?_⟩⟩
  · simp [SV.wf, nilSlice]
  · rfl
theorem ty10 : ∃ i d, TOk Try.prog 10 ⟨1, 16, .str, .str []⟩ i d := by
  refine ⟨Try.t10, _, ⟨by kernel_rfl, Try.underlying10, by kernel_rfl, by kernel_rfl, by kernel_rfl, ?_, by kernel_rfl, by kernel_rfl, ?_⟩⟩
  · simp [SV.wf, nilSlice]
  · rfl
theorem ty11 : ∃ i d, TOk Try.prog 11 ⟨1, 16, .str, .str []⟩ i d := by
  refine ⟨Try.t11, _, ⟨by kernel_rfl, Try.underlying11, by kernel_rfl, by kernel_rfl, by kernel_rfl, ?_, by kernel_rfl, by kernel_rfl, ?_⟩⟩
  · simp [SV.wf, nilSlice]
  · rfl
theorem ty12 : ∃ i d, TOk Try.prog 12 ⟨1, 8, .int .u64, .int .u64 0⟩ i d := by
  refine ⟨Try.t12, _, ⟨by kernel_rfl, Try.underlying12, by kernel_rfl, by kernel_rfl, by kernel_rfl, ?_, by kernel_rfl, by kernel_rfl, ?_⟩⟩
  · simp [SV.wf, nilSlice]
  · rfl
theorem ty13 : ∃ i d, TOk Try.prog 13 ⟨2, 24, .struct [(0, 9), (1, 12)], .agg [.str [], .int .u64 0]⟩ i d := by
  refine ⟨Try.t13, _, ⟨by kernel_rfl, Try.underlying13, by kernel_rfl, by kernel_rfl, by kernel_rfl, ?_, by kernel_rfl, by kernel_rfl, ?_⟩⟩
  · simp [SV.wf, SV.wfA, SV.nt, nilSlice, SV.sz, SV.sz.szL]
  · exact kok_struct _ _ _ rfl (by kernel_rfl) (by kernel_rfl)
theorem ty14 : ∃ i d, TOk Try.prog 14 ⟨2, 24, .struct [(0, 9), (1, 12)], .agg [.str [], .int .u64 0]⟩ i d := by
  refine ⟨Try.t14, _, ⟨by kernel_rfl, Try.underlying14, by kernel_rfl, by kernel_rfl, by kernel_rfl, ?_, by kernel_rfl, by kernel_rfl, ?_⟩⟩
  · simp [SV.wf, SV.wfA, SV.nt, nilSlice, SV.sz, SV.sz.szL]
  · exact kok_struct _ _ _ rfl (by kernel_rfl) (by kernel_rfl)
theorem ty15 : ∃ i d, TOk Try.prog 15 ⟨1, 8, .ptr 83, .val (.pointer none)⟩ i d := by
  refine ⟨Try.t15, _, ⟨by kernel_rfl, Try.underlying15, by kernel_rfl, by kernel_rfl, by kernel_rfl, ?_, by kernel_rfl, by kernel_rfl, ?_⟩⟩
  · simp [SV.wf, nilSlice]
  · rfl
theorem ty16 : ∃ i d, TOk Try.prog 16 ⟨1, 8, .ptr 86, .val (.pointer none)⟩ i d := by
  refine ⟨Try.t16, _, ⟨by kernel_rfl, Try.underlying16, by kernel_rfl, by kernel_rfl, by kernel_rfl, ?_, by kernel_rfl, by kernel_rfl, ?_⟩⟩
  · simp [SV.wf, nilSlice]
  · rfl
theorem ty17 : ∃ i d, TOk Try.prog 17 ⟨1, 8, .ptr 96, .val (.pointer none)⟩ i d := by
  refine ⟨Try.t17, _, ⟨by kernel_rfl, Try.underlying17, by kernel_rfl, by kernel_rfl, by kernel_rfl, ?_, by kernel_rfl, by kernel_rfl, ?_⟩⟩
  · simp [SV.wf, nilSlice]
  · rfl
theorem ty18 : ∃ i d, TOk Try.prog 18 ⟨1, 8, .struct [(0, 17)], .agg [.val (.pointer none)]⟩ i d := by
  refine ⟨Try.t18, _, ⟨by kernel_rfl, Try.underlying18, by kernel_rfl, by kernel_rfl, by kernel_rfl, ?_, by kernel_rfl, by kernel_rfl, ?_⟩⟩
  · simp [SV.wf, SV.wfA, SV.nt, nilSlice, SV.sz, SV.sz.szL]
  · exact kok_struct _ _ _ rfl (by kernel_rfl) (by kernel_rfl)
theorem ty19 : ∃ i d, TOk Try.prog 19 ⟨1, 8, .struct [(0, 17)], .agg [.val (.pointer none)]⟩ i d := by
  refine ⟨Try.t19, _, ⟨by kernel_rfl, Try.underlying19, by kernel_rfl, by kernel_rfl, by kernel_rfl, ?_, by kernel_rfl, by kernel_rfl, ?_⟩⟩
  · simp [SV.wf, SV.wfA, SV.nt, nilSlice, SV.sz, SV.sz.szL]
  · exact kok_struct _ _ _ rfl (by kernel_rfl) (by kernel_rfl)
theorem ty20 : ∃ i d, TOk Try.prog 20 ⟨1, 16, .iface, .val .nilIface⟩ i d := by
  refine ⟨Try.t20, _, ⟨by kernel_rfl, Try.underlying20, by kernel_rfl, by kernel_rfl, by kernel_rfl, ?_, by kernel_rfl, by kernel_rfl, ?_⟩⟩
  · simp [SV.wf, nilSlice]
  · exact ⟨_, rfl⟩
theorem ty21 : ∃ i d, TOk Try.prog 21 ⟨1, 4, .int .i32, .int .i32 0⟩ i d := by
  refine ⟨Try.t21, _, ⟨by kernel_rfl, Try.underlying21, by kernel_rfl, by kernel_rfl, by kernel_rfl, ?_, by kernel_rfl, by kernel_rfl, ?_⟩⟩
  · simp [SV.wf, nilSlice]
  · rfl
theorem ty22 : ∃ i d, TOk Try.prog 22 ⟨1, 24, .slice 29, nilSlice⟩ i d := by
  refine ⟨Try.t22, _, ⟨by kernel_rfl, Try.underlying22, by kernel_rfl, by kernel_rfl, by kernel_rfl, ?_, by kernel_rfl, by kernel_rfl, ?_⟩⟩
  · simp [SV.wf, nilSlice]
  · rfl
theorem ty23 : ∃ i d, TOk Try.prog 23 ⟨1, 24, .slice 44, nilSlice⟩ i d := by
  refine ⟨Try.t23, _, ⟨by kernel_rfl, Try.underlying23, by kernel_rfl, by kernel_rfl, by kernel_rfl, ?_, by kernel_rfl, by kernel_rfl, ?_⟩⟩
  · simp [SV.wf, nilSlice]
  · rfl
theorem ty24 : ∃ i d, TOk Try.prog 24 ⟨1, 24, .slice 47, nilSlice⟩ i d := by
  refine ⟨Try.t24, _, ⟨by kernel_rfl, Try.underlying24, by kernel_rfl, by kernel_rfl, by kernel_rfl, ?_, by kernel_rfl, by kernel_rfl, ?_⟩⟩
  · simp [SV.wf, nilSlice]
  · rfl
theorem ty25 : ∃ i d, TOk Try.prog 25 ⟨1, 24, .slice 2, nilSlice⟩ i d := by
  refine ⟨Try.t25, _, ⟨by kernel_rfl, Try.underlying25, by kernel_rfl, by kernel_rfl, by kernel_rfl, ?_, by kernel_rfl, by kernel_rfl, ?_⟩⟩
  · simp [SV.wf, nilSlice]
  · rfl
theorem ty26 : ∃ i d, TOk Try.prog 26 ⟨4, 96, .struct [(0, 22), (1, 23), (2, 24), (3, 25)], .agg [nilSlice, nilSlice, nilSlice, nilSlice]⟩ i d := by
  refine ⟨Try.t26, _, ⟨by kernel_rfl, Try.underlying26, by kernel_rfl, by kernel_rfl, by kernel_rfl, ?_, by kernel_rfl, by kernel_rfl, ?_⟩⟩
  · simp [SV.wf, SV.wfA, SV.nt, nilSlice, SV.sz, SV.sz.szL]
  · exact kok_struct _ _ _ rfl (by kernel_rfl) (by kernel_rfl)
theorem ty27 : ∃ i d, TOk Try.prog 27 ⟨4, 96, .struct [(0, 22), (1, 23), (2, 24), (3, 25)], .agg [nilSlice, nilSlice, nilSlice, nilSlice]⟩ i d := by
  refine ⟨Try.t27, _, ⟨by kernel_rfl, Try.underlying27, by kernel_rfl, by kernel_rfl, by kernel_rfl, ?_, by kernel_rfl, by kernel_rfl, ?_⟩⟩
  · simp [SV.wf, SV.wfA, SV.nt, nilSlice, SV.sz, SV.sz.szL]
  · exact kok_struct _ _ _ rfl (by kernel_rfl) (by kernel_rfl)
theorem ty28 : ∃ i d, TOk Try.prog 28 ⟨2, 16, .struct [(0, 2), (1, 2)], .agg [.int .i64 0, .int .i64 0]⟩ i d := by
  refine ⟨Try.t28, _, ⟨by kernel_rfl, Try.underlying28, by kernel_rfl, by kernel_rfl, by kernel_rfl, ?_, by kernel_rfl, by kernel_rfl, ?_⟩⟩
  · simp [SV.wf, SV.wfA, SV.nt, nilSlice, SV.sz, SV.sz.szL]
  · exact kok_struct _ _ _ rfl (by kernel_rfl) (by kernel_rfl)
theorem ty29 : ∃ i d, TOk Try.prog 29 ⟨2, 16, .struct [(0, 2), (1, 2)], .agg [.int .i64 0, .int .i64 0]⟩ i d := by
  refine ⟨Try.t29, _, ⟨by kernel_rfl, Try.underlying29, by kernel_rfl, by kernel_rfl, by kernel_rfl, ?_, by kernel_rfl, by kernel_rfl, ?_⟩⟩
  · simp [SV.wf, SV.wfA, SV.nt, nilSlice, SV.sz, SV.sz.szL]
  · exact kok_struct _ _ _ rfl (by kernel_rfl) (by kernel_rfl)
theorem ty30 : ∃ i d, TOk Try.prog 30 ⟨1, 8, .fn, .val .nilFunc⟩ i d := by
  refine ⟨Try.t30, _, ⟨by kernel_rfl, Try.underlying30, by kernel_rfl, by kernel_rfl, by kernel_rfl, ?_, by kernel_rfl, by kernel_rfl, ?_⟩⟩
  · simp [SV.wf, nilSlice]
  · exact ⟨_, _, _, rfl⟩
theorem ty31 : ∃ i d, TOk Try.prog 31 ⟨1, 8, .fn, .val .nilFunc⟩ i d := by
  refine ⟨Try.t31, _, ⟨by kernel_rfl, Try.underlying31, by kernel_rfl, by kernel_rfl, by kernel_rfl, ?_, by kernel_rfl, by kernel_rfl, ?_⟩⟩
  · simp [SV.wf, nilSlice]
  · exact ⟨_, _, _, rfl⟩
theorem ty32 : ∃ i d, TOk Try.prog 32 ⟨1, 8, .int .i64, .int .i64 0⟩ i d := by
  refine ⟨Try.t32, _, ⟨by kernel_rfl, Try.underlying32, by kernel_rfl, by kernel_rfl, by kernel_rfl, ?_, by kernel_rfl, by kernel_rfl, ?_⟩⟩
  · simp [SV.wf, nilSlice]
  · rfl
theorem ty33 : ∃ i d, TOk Try.prog 33 ⟨1, 8, .fn, .val .nilFunc⟩ i d := by
  refine ⟨Try.t33, _, ⟨by kernel_rfl, Try.underlying33, by kernel_rfl, by kernel_rfl, by kernel_rfl, ?_, by kernel_rfl, by kernel_rfl, ?_⟩⟩
  · simp [SV.wf, nilSlice]
  · exact ⟨_, _, _, rfl⟩
theorem ty34 : ∃ i d, TOk Try.prog 34 ⟨1, 8, .fn, .val .nilFunc⟩ i d := by
  refine ⟨Try.t34, _, ⟨by kernel_rfl, Try.underlying34, by kernel_rfl, by kernel_rfl, by kernel_rfl, ?_, by kernel_rfl, by kernel_rfl, ?_⟩⟩
  · simp [SV.wf, nilSlice]
  · exact ⟨_, _, _, rfl⟩
theorem ty35 : ∃ i d, TOk Try.prog 35 ⟨1, 8, .fn, .val .nilFunc⟩ i d := by
  refine ⟨Try.t35, _, ⟨by kernel_rfl, Try.underlying35, by kernel_rfl, by kernel_rfl, by kernel_rfl, ?_, by kernel_rfl, by kernel_rfl, ?_⟩⟩
  · simp [SV.wf, nilSlice]
  · exact ⟨_, _, _, rfl⟩
theorem ty36 : ∃ i d, TOk Try.prog 36 ⟨1, 8, .fn, .val .nilFunc⟩ i d := by
  refine ⟨Try.t36, _, ⟨by kernel_rfl, Try.underlying36, by kernel_rfl, by kernel_rfl, by kernel_rfl, ?_, by kernel_rfl, by kernel_rfl, ?_⟩⟩
  · simp [SV.wf, nilSlice]
  · exact ⟨_, _, _, rfl⟩
theorem ty37 : ∃ i d, TOk Try.prog 37 ⟨1, 8, .fn, .val .nilFunc⟩ i d := by
  refine ⟨Try.t37, _, ⟨by kernel_rfl, Try.underlying37, by kernel_rfl, by kernel_rfl, by kernel_rfl, ?_, by kernel_rfl, by kernel_rfl, ?_⟩⟩
  · simp [SV.wf, nilSlice]
  · exact ⟨_, _, _, rfl⟩
theorem ty38 : ∃ i d, TOk Try.prog 38 ⟨3, 24, .struct [(0, 2), (1, 2), (2, 2)], .agg [.int .i64 0, .int .i64 0, .int .i64 0]⟩ i d := by
  refine ⟨Try.t38, _, ⟨by kernel_rfl, Try.underlying38, by kernel_rfl, by kernel_rfl, by kernel_rfl, ?_, by kernel_rfl, by kernel_rfl, ?_⟩⟩
  · simp [SV.wf, SV.wfA, SV.nt, nilSlice, SV.sz, SV.sz.szL]
  · exact kok_struct _ _ _ rfl (by kernel_rfl) (by kernel_rfl)
theorem ty39 : ∃ i d, TOk Try.prog 39 ⟨3, 24, .struct [(0, 2), (1, 2), (2, 2)], .agg [.int .i64 0, .int .i64 0, .int .i64 0]⟩ i d := by
  refine ⟨Try.t39, _, ⟨by kernel_rfl, Try.underlying39, by kernel_rfl, by kernel_rfl, by kernel_rfl, ?_, by kernel_rfl, by kernel_rfl, ?_⟩⟩
  · simp [SV.wf, SV.wfA, SV.nt, nilSlice, SV.sz, SV.sz.szL]
  · exact kok_struct _ _ _ rfl (by kernel_rfl) (by kernel_rfl)
theorem ty41 : ∃ i d, TOk Try.prog 41 ⟨1, 8, .fn, .val .nilFunc⟩ i d := by
  refine ⟨Try.t41, _, ⟨by kernel_rfl, Try.underlying41, by kernel_rfl, by kernel_rfl, by kernel_rfl, ?_, by kernel_rfl, by kernel_rfl, ?_⟩⟩
  · simp [SV.wf, nilSlice]
  · exact ⟨_, _, _, rfl⟩
theorem ty42 : ∃ i d, TOk Try.prog 42 ⟨1, 8, .fn, .val .nilFunc⟩ i d := by
  refine ⟨Try.t42, _, ⟨by kernel_rfl, Try.underlying42, by kernel_rfl, by kernel_rfl, by kernel_rfl, ?_, by kernel_rfl, by kernel_rfl, ?_⟩⟩
  · simp [SV.wf, nilSlice]
  · exact ⟨_, _, _, rfl⟩
theorem ty43 : ∃ i d, TOk Try.prog 43 ⟨3, 24, .struct [(0, 3), (1, 3), (2, 2)], .agg [.int .i64 0, .int .i64 0, .int .i64 0]⟩ i d := by
  refine ⟨Try.t43, _, ⟨by kernel_rfl, Try.underlying43, by kernel_rfl, by kernel_rfl, by kernel_rfl, ?_, by kernel_rfl, by kernel_rfl, ?_⟩⟩
  · simp [SV.wf, SV.wfA, SV.nt, nilSlice, SV.sz, SV.sz.szL]
  · exact kok_struct _ _ _ rfl (by kernel_rfl) (by kernel_rfl)
theorem ty44 : ∃ i d, TOk Try.prog 44 ⟨3, 24, .struct [(0, 3), (1, 3), (2, 2)], .agg [.int .i64 0, .int .i64 0, .int .i64 0]⟩ i d := by
  refine ⟨Try.t44, _, ⟨by kernel_rfl, Try.underlying44, by kernel_rfl, by kernel_rfl, by kernel_rfl, ?_, by kernel_rfl, by kernel_rfl, ?_⟩⟩
  · simp [SV.wf, SV.wfA, SV.nt, nilSlice, SV.sz, SV.sz.szL]
  · exact kok_struct _ _ _ rfl (by kernel_rfl) (by kernel_rfl)
theorem ty45 : ∃ i d, TOk Try.prog 45 ⟨1, 8, .fn, .val .nilFunc⟩ i d := by
  refine ⟨Try.t45, _, ⟨by kernel_rfl, Try.underlying45, by kernel_rfl, by kernel_rfl, by kernel_rfl, ?_, by kernel_rfl, by kernel_rfl, ?_⟩⟩
  · simp [SV.wf, nilSlice]
  · exact ⟨_, _, _, rfl⟩
theorem ty46 : ∃ i d, TOk Try.prog 46 ⟨5, 40, .struct [(0, 3), (1, 2), (2, 2), (3, 2), (4, 4)], .agg [.int .i64 0, .int .i64 0, .int .i64 0, .int .i64 0, .bool false]⟩ i d := by
  refine ⟨Try.t46, _, ⟨by kernel_rfl, Try.underlying46, by kernel_rfl, by kernel_rfl, by kernel_rfl, ?_, by kernel_rfl, by kernel_rfl, ?_⟩⟩
  · simp [SV.wf, SV.wfA, SV.nt, nilSlice, SV.sz, SV.sz.szL]
  · exact kok_struct _ _ _ rfl (by kernel_rfl) (by kernel_rfl)
theorem ty47 : ∃ i d, TOk Try.prog 47 ⟨5, 40, .struct [(0, 3), (1, 2), (2, 2), (3, 2), (4, 4)], .agg [.int .i64 0, .int .i64 0, .int .i64 0, .int .i64 0, .bool false]⟩ i d := by
  refine ⟨Try.t47, _, ⟨by kernel_rfl, Try.underlying47, by kernel_rfl, by kernel_rfl, by kernel_rfl, ?_, by kernel_rfl, by kernel_rfl, ?_⟩⟩
  · simp [SV.wf, SV.wfA, SV.nt, nilSlice, SV.sz, SV.sz.szL]
  · exact kok_struct _ _ _ rfl (by kernel_rfl) (by kernel_rfl)
theorem ty48 : ∃ i d, TOk Try.prog 48 ⟨1, 8, .fn, .val .nilFunc⟩ i d := by
  refine ⟨Try.t48, _, ⟨by kernel_rfl, Try.underlying48, by kernel_rfl, by kernel_rfl, by kernel_rfl, ?_, by kernel_rfl, by kernel_rfl, ?_⟩⟩
  · simp [SV.wf, nilSlice]
  · exact ⟨_, _, _, rfl⟩
theorem ty49 : ∃ i d, TOk Try.prog 49 ⟨1, 8, .fn, .val .nilFunc⟩ i d := by
  refine ⟨Try.t49, _, ⟨by kernel_rfl, Try.underlying49, by kernel_rfl, by kernel_rfl, by kernel_rfl, ?_, by kernel_rfl, by kernel_rfl, ?_⟩⟩
  · simp [SV.wf, nilSlice]
  · exact ⟨_, _, _, rfl⟩
theorem ty50 : ∃ i d, TOk Try.prog 50 ⟨1, 8, .fn, .val .nilFunc⟩ i d := by
  refine ⟨Try.t50, _, ⟨by kernel_rfl, Try.underlying50, by kernel_rfl, by kernel_rfl, by kernel_rfl, ?_, by kernel_rfl, by kernel_rfl, ?_⟩⟩
  · simp [SV.wf, nilSlice]
  · exact ⟨_, _, _, rfl⟩
theorem ty51 : ∃ i d, TOk Try.prog 51 ⟨1, 8, .fn, .val .nilFunc⟩ i d := by
  refine ⟨Try.t51, _, ⟨by kernel_rfl, Try.underlying51, by kernel_rfl, by kernel_rfl, by kernel_rfl, ?_, by kernel_rfl, by kernel_rfl, ?_⟩⟩
  · simp [SV.wf, nilSlice]
  · exact ⟨_, _, _, rfl⟩
theorem ty52 : ∃ i d, TOk Try.prog 52 ⟨1, 8, .fn, .val .nilFunc⟩ i d := by
  refine ⟨Try.t52, _, ⟨by kernel_rfl, Try.underlying52, by kernel_rfl, by kernel_rfl, by kernel_rfl, ?_, by kernel_rfl, by kernel_rfl, ?_⟩⟩
  · simp [SV.wf, nilSlice]
  · exact ⟨_, _, _, rfl⟩
theorem ty53 : ∃ i d, TOk Try.prog 53 ⟨1, 8, .fn, .val .nilFunc⟩ i d := by
  refine ⟨Try.t53, _, ⟨by kernel_rfl, Try.underlying53, by kernel_rfl, by kernel_rfl, by kernel_rfl, ?_, by kernel_rfl, by kernel_rfl, ?_⟩⟩
  · simp [SV.wf, nilSlice]
  · exact ⟨_, _, _, rfl⟩
theorem ty54 : ∃ i d, TOk Try.prog 54 ⟨1, 8, .fn, .val .nilFunc⟩ i d := by
  refine ⟨Try.t54, _, ⟨by kernel_rfl, Try.underlying54, by kernel_rfl, by kernel_rfl, by kernel_rfl, ?_, by kernel_rfl, by kernel_rfl, ?_⟩⟩
  · simp [SV.wf, nilSlice]
  · exact ⟨_, _, _, rfl⟩
theorem ty55 : ∃ i d, TOk Try.prog 55 ⟨1, 8, .fn, .val .nilFunc⟩ i d := by
  refine ⟨Try.t55, _, ⟨by kernel_rfl, Try.underlying55, by kernel_rfl, by kernel_rfl, by kernel_rfl, ?_, by kernel_rfl, by kernel_rfl, ?_⟩⟩
  · simp [SV.wf, nilSlice]
  · exact ⟨_, _, _, rfl⟩
theorem ty56 : ∃ i d, TOk Try.prog 56 ⟨1, 8, .fn, .val .nilFunc⟩ i d := by
  refine ⟨Try.t56, _, ⟨by kernel_rfl, Try.underlying56, by kernel_rfl, by kernel_rfl, by kernel_rfl, ?_, by kernel_rfl, by kernel_rfl, ?_⟩⟩
  · simp [SV.wf, nilSlice]
  · exact ⟨_, _, _, rfl⟩
theorem ty57 : ∃ i d, TOk Try.prog 57 ⟨1, 8, .fn, .val .nilFunc⟩ i d := by
  refine ⟨Try.t57, _, ⟨by kernel_rfl, Try.underlying57, by kernel_rfl, by kernel_rfl, by kernel_rfl, ?_, by kernel_rfl, by kernel_rfl, ?_⟩⟩
  · simp [SV.wf, nilSlice]
  · exact ⟨_, _, _, rfl⟩
theorem ty58 : ∃ i d, TOk Try.prog 58 ⟨1, 8, .fn, .val .nilFunc⟩ i d := by
  refine ⟨Try.t58, _, ⟨by kernel_rfl, Try.underlying58, by kernel_rfl, by kernel_rfl, by kernel_rfl, ?_, by kernel_rfl, by kernel_rfl, ?_⟩⟩
  · simp [SV.wf, nilSlice]
  · exact ⟨_, _, _, rfl⟩
theorem ty59 : ∃ i d, TOk Try.prog 59 ⟨1, 8, .fn, .val .nilFunc⟩ i d := by
  refine ⟨Try.t59, _, ⟨by kernel_rfl, Try.underlying59, by kernel_rfl, by kernel_rfl, by kernel_rfl, ?_, by kernel_rfl, by kernel_rfl, ?_⟩⟩
  · simp [SV.wf, nilSlice]
  · exact ⟨_, _, _, rfl⟩
theorem ty60 : ∃ i d, TOk Try.prog 60 ⟨1, 8, .ptr 62, .val (.pointer none)⟩ i d := by
  refine ⟨Try.t60, _, ⟨by kernel_rfl, Try.underlying60, by kernel_rfl, by kernel_rfl, by kernel_rfl, ?_, by kernel_rfl, by kernel_rfl, ?_⟩⟩
  · simp [SV.wf, nilSlice]
  · rfl
theorem ty61 : ∃ i d, TOk Try.prog 61 ⟨9, 152, .struct [(0, 27), (4, 25), (5, 4), (6, 39)], .agg [.agg [nilSlice, nilSlice, nilSlice, nilSlice], nilSlice, .bool false, .agg [.int .i64 0, .int .i64 0, .int .i64 0]]⟩ i d := by
  refine ⟨Try.t61, _, ⟨by kernel_rfl, Try.underlying61, by kernel_rfl, by kernel_rfl, by kernel_rfl, ?_, by kernel_rfl, by kernel_rfl, ?_⟩⟩
  · simp [SV.wf, SV.wfA, SV.nt, nilSlice, SV.sz, SV.sz.szL]
  · exact kok_struct _ _ _ rfl (by kernel_rfl) (by kernel_rfl)
theorem ty62 : ∃ i d, TOk Try.prog 62 ⟨9, 152, .struct [(0, 27), (4, 25), (5, 4), (6, 39)], .agg [.agg [nilSlice, nilSlice, nilSlice, nilSlice], nilSlice, .bool false, .agg [.int .i64 0, .int .i64 0, .int .i64 0]]⟩ i d := by
  refine ⟨Try.t62, _, ⟨by kernel_rfl, Try.underlying62, by kernel_rfl, by kernel_rfl, by kernel_rfl, ?_, by kernel_rfl, by kernel_rfl, ?_⟩⟩
  · simp [SV.wf, SV.wfA, SV.nt, nilSlice, SV.sz, SV.sz.szL]
  · exact kok_struct _ _ _ rfl (by kernel_rfl) (by kernel_rfl)
theorem ty63 : ∃ i d, TOk Try.prog 63 ⟨1, 8, .fn, .val .nilFunc⟩ i d := by
  refine ⟨Try.t63, _, ⟨by kernel_rfl, Try.underlying63, by kernel_rfl, by kernel_rfl, by kernel_rfl, ?_, by kernel_rfl, by kernel_rfl, ?_⟩⟩
  · simp [SV.wf, nilSlice]
  · exact ⟨_, _, _, rfl⟩
theorem ty64 : ∃ i d, TOk Try.prog 64 ⟨1, 8, .fn, .val .nilFunc⟩ i d := by
  refine ⟨Try.t64, _, ⟨by kernel_rfl, Try.underlying64, by kernel_rfl, by kernel_rfl, by kernel_rfl, ?_, by kernel_rfl, by kernel_rfl, ?_⟩⟩
  · simp [SV.wf, nilSlice]
  · exact ⟨_, _, _, rfl⟩
theorem ty65 : ∃ i d, TOk Try.prog 65 ⟨1, 8, .fn, .val .nilFunc⟩ i d := by
  refine ⟨Try.t65, _, ⟨by kernel_rfl, Try.underlying65, by kernel_rfl, by kernel_rfl, by kernel_rfl, ?_, by kernel_rfl, by kernel_rfl, ?_⟩⟩
  · simp [SV.wf, nilSlice]
  · exact ⟨_, _, _, rfl⟩
theorem ty66 : ∃ i d, TOk Try.prog 66 ⟨1, 8, .fn, .val .nilFunc⟩ i d := by
  refine ⟨Try.t66, _, ⟨by kernel_rfl, Try.underlying66, by kernel_rfl, by kernel_rfl, by kernel_rfl, ?_, by kernel_rfl, by kernel_rfl, ?_⟩⟩
  · simp [SV.wf, nilSlice]
  · exact ⟨_, _, _, rfl⟩
theorem ty67 : ∃ i d, TOk Try.prog 67 ⟨1, 8, .fn, .val .nilFunc⟩ i d := by
  refine ⟨Try.t67, _, ⟨by kernel_rfl, Try.underlying67, by kernel_rfl, by kernel_rfl, by kernel_rfl, ?_, by kernel_rfl, by kernel_rfl, ?_⟩⟩
  · simp [SV.wf, nilSlice]
  · exact ⟨_, _, _, rfl⟩
theorem ty68 : ∃ i d, TOk Try.prog 68 ⟨1, 8, .struct [(0, 67)], .agg [.val .nilFunc]⟩ i d := by
  refine ⟨Try.t68, _, ⟨by kernel_rfl, Try.underlying68, by kernel_rfl, by kernel_rfl, by kernel_rfl, ?_, by kernel_rfl, by kernel_rfl, ?_⟩⟩
  · simp [SV.wf, SV.wfA, SV.nt, nilSlice, SV.sz, SV.sz.szL]
  · exact kok_struct _ _ _ rfl (by kernel_rfl) (by kernel_rfl)
theorem ty69 : ∃ i d, TOk Try.prog 69 ⟨1, 8, .struct [(0, 67)], .agg [.val .nilFunc]⟩ i d := by
  refine ⟨Try.t69, _, ⟨by kernel_rfl, Try.underlying69, by kernel_rfl, by kernel_rfl, by kernel_rfl, ?_, by kernel_rfl, by kernel_rfl, ?_⟩⟩
  · simp [SV.wf, SV.wfA, SV.nt, nilSlice, SV.sz, SV.sz.szL]
  · exact kok_struct _ _ _ rfl (by kernel_rfl) (by kernel_rfl)
theorem ty70 : ∃ i d, TOk Try.prog 70 ⟨5, 40, .arr 5 69, .arr 5 1 fun _ => .agg [.val .nilFunc]⟩ i d := by
  refine ⟨Try.t70, _, ⟨by kernel_rfl, Try.underlying70, by kernel_rfl, by kernel_rfl, by kernel_rfl, ?_, by kernel_rfl, by kernel_rfl, ?_⟩⟩
  · simp [SV.wf, SV.wfA, SV.nt, nilSlice, SV.sz, SV.sz.szL]
  · rfl
theorem ty71 : ∃ i d, TOk Try.prog 71 ⟨1, 8, .fn, .val .nilFunc⟩ i d := by
  refine ⟨Try.t71, _, ⟨by kernel_rfl, Try.underlying71, by kernel_rfl, by kernel_rfl, by kernel_rfl, ?_, by kernel_rfl, by kernel_rfl, ?_⟩⟩
  · simp [SV.wf, nilSlice]
  · exact ⟨_, _, _, rfl⟩
theorem ty72 : ∃ i d, TOk Try.prog 72 ⟨1, 8, .fn, .val .nilFunc⟩ i d := by
  refine ⟨Try.t72, _, ⟨by kernel_rfl, Try.underlying72, by kernel_rfl, by kernel_rfl, by kernel_rfl, ?_, by kernel_rfl, by kernel_rfl, ?_⟩⟩
  · simp [SV.wf, nilSlice]
  · exact ⟨_, _, _, rfl⟩
theorem ty73 : ∃ i d, TOk Try.prog 73 ⟨1, 8, .fn, .val .nilFunc⟩ i d := by
  refine ⟨Try.t73, _, ⟨by kernel_rfl, Try.underlying73, by kernel_rfl, by kernel_rfl, by kernel_rfl, ?_, by kernel_rfl, by kernel_rfl, ?_⟩⟩
  · simp [SV.wf, nilSlice]
  · exact ⟨_, _, _, rfl⟩
theorem ty74 : ∃ i d, TOk Try.prog 74 ⟨1, 8, .fn, .val .nilFunc⟩ i d := by
  refine ⟨Try.t74, _, ⟨by kernel_rfl, Try.underlying74, by kernel_rfl, by kernel_rfl, by kernel_rfl, ?_, by kernel_rfl, by kernel_rfl, ?_⟩⟩
  · simp [SV.wf, nilSlice]
  · exact ⟨_, _, _, rfl⟩
theorem ty75 : ∃ i d, TOk Try.prog 75 ⟨1, 8, .fn, .val .nilFunc⟩ i d := by
  refine ⟨Try.t75, _, ⟨by kernel_rfl, Try.underlying75, by kernel_rfl, by kernel_rfl, by kernel_rfl, ?_, by kernel_rfl, by kernel_rfl, ?_⟩⟩
  · simp [SV.wf, nilSlice]
  · exact ⟨_, _, _, rfl⟩
theorem ty76 : ∃ i d, TOk Try.prog 76 ⟨1, 8, .fn, .val .nilFunc⟩ i d := by
  refine ⟨Try.t76, _, ⟨by kernel_rfl, Try.underlying76, by kernel_rfl, by kernel_rfl, by kernel_rfl, ?_, by kernel_rfl, by kernel_rfl, ?_⟩⟩
  · simp [SV.wf, nilSlice]
  · exact ⟨_, _, _, rfl⟩
theorem ty77 : ∃ i d, TOk Try.prog 77 ⟨1, 8, .ptr 47, .val (.pointer none)⟩ i d := by
  refine ⟨Try.t77, _, ⟨by kernel_rfl, Try.underlying77, by kernel_rfl, by kernel_rfl, by kernel_rfl, ?_, by kernel_rfl, by kernel_rfl, ?_⟩⟩
  · simp [SV.wf, nilSlice]
  · rfl
theorem ty78 : ∃ i d, TOk Try.prog 78 ⟨1, 8, .ptr 29, .val (.pointer none)⟩ i d := by
  refine ⟨Try.t78, _, ⟨by kernel_rfl, Try.underlying78, by kernel_rfl, by kernel_rfl, by kernel_rfl, ?_, by kernel_rfl, by kernel_rfl, ?_⟩⟩
  · simp [SV.wf, nilSlice]
  · rfl
theorem ty79 : ∃ i d, TOk Try.prog 79 ⟨1, 8, .fn, .val .nilFunc⟩ i d := by
  refine ⟨Try.t79, _, ⟨by kernel_rfl, Try.underlying79, by kernel_rfl, by kernel_rfl, by kernel_rfl, ?_, by kernel_rfl, by kernel_rfl, ?_⟩⟩
  · simp [SV.wf, nilSlice]
  · exact ⟨_, _, _, rfl⟩
theorem ty80 : ∃ i d, TOk Try.prog 80 ⟨1, 8, .int .u64, .int .u64 0⟩ i d := by
  refine ⟨Try.t80, _, ⟨by kernel_rfl, Try.underlying80, by kernel_rfl, by kernel_rfl, by kernel_rfl, ?_, by kernel_rfl, by kernel_rfl, ?_⟩⟩
  · simp [SV.wf, nilSlice]
  · rfl
theorem ty81 : ∃ i d, TOk Try.prog 81 ⟨1, 8, .fn, .val .nilFunc⟩ i d := by
  refine ⟨Try.t81, _, ⟨by kernel_rfl, Try.underlying81, by kernel_rfl, by kernel_rfl, by kernel_rfl, ?_, by kernel_rfl, by kernel_rfl, ?_⟩⟩
  · simp [SV.wf, nilSlice]
  · exact ⟨_, _, _, rfl⟩
theorem ty82 : ∃ i d, TOk Try.prog 82 ⟨4, 40, .struct [(0, 17), (1, 17), (2, 17), (3, 9)], .agg [.val (.pointer none), .val (.pointer none), .val (.pointer none), .str []]⟩ i d := by
  refine ⟨Try.t82, _, ⟨by kernel_rfl, Try.underlying82, by kernel_rfl, by kernel_rfl, by kernel_rfl, ?_, by kernel_rfl, by kernel_rfl, ?_⟩⟩
  · simp [SV.wf, SV.wfA, SV.nt, nilSlice, SV.sz, SV.sz.szL]
  · exact kok_struct _ _ _ rfl (by kernel_rfl) (by kernel_rfl)
theorem ty83 : ∃ i d, TOk Try.prog 83 ⟨4, 40, .struct [(0, 17), (1, 17), (2, 17), (3, 9)], .agg [.val (.pointer none), .val (.pointer none), .val (.pointer none), .str []]⟩ i d := by
  refine ⟨Try.t83, _, ⟨by kernel_rfl, Try.underlying83, by kernel_rfl, by kernel_rfl, by kernel_rfl, ?_, by kernel_rfl, by kernel_rfl, ?_⟩⟩
  · simp [SV.wf, SV.wfA, SV.nt, nilSlice, SV.sz, SV.sz.szL]
  · exact kok_struct _ _ _ rfl (by kernel_rfl) (by kernel_rfl)
theorem ty84 : ∃ i d, TOk Try.prog 84 ⟨0, 0, .arr 0 16, .arr 0 1 fun _ => .val (.pointer none)⟩ i d := by
  refine ⟨Try.t84, _, ⟨by kernel_rfl, Try.underlying84, by kernel_rfl, by kernel_rfl, by kernel_rfl, ?_, by kernel_rfl, by kernel_rfl, ?_⟩⟩
  · simp [SV.wf, SV.wfA, SV.nt, nilSlice, SV.sz, SV.sz.szL]
  · rfl
theorem ty87 : ∃ i d, TOk Try.prog 87 ⟨1, 8, .fn, .val .nilFunc⟩ i d := by
  refine ⟨Try.t87, _, ⟨by kernel_rfl, Try.underlying87, by kernel_rfl, by kernel_rfl, by kernel_rfl, ?_, by kernel_rfl, by kernel_rfl, ?_⟩⟩
  · simp [SV.wf, nilSlice]
  · exact ⟨_, _, _, rfl⟩
theorem ty88 : ∃ i d, TOk Try.prog 88 ⟨1, 4, .int .u32, .int .u32 0⟩ i d := by
  refine ⟨Try.t88, _, ⟨by kernel_rfl, Try.underlying88, by kernel_rfl, by kernel_rfl, by kernel_rfl, ?_, by kernel_rfl, by kernel_rfl, ?_⟩⟩
  · simp [SV.wf, nilSlice]
  · rfl
theorem ty89 : ∃ i d, TOk Try.prog 89 ⟨1, 1, .int .u8, .int .u8 0⟩ i d := by
  refine ⟨Try.t89, _, ⟨by kernel_rfl, Try.underlying89, by kernel_rfl, by kernel_rfl, by kernel_rfl, ?_, by kernel_rfl, by kernel_rfl, ?_⟩⟩
  · simp [SV.wf, nilSlice]
  · rfl
theorem ty90 : ∃ i d, TOk Try.prog 90 ⟨1, 1, .int .u8, .int .u8 0⟩ i d := by
  refine ⟨Try.t90, _, ⟨by kernel_rfl, Try.underlying90, by kernel_rfl, by kernel_rfl, by kernel_rfl, ?_, by kernel_rfl, by kernel_rfl, ?_⟩⟩
  · simp [SV.wf, nilSlice]
  · rfl
theorem ty91 : ∃ i d, TOk Try.prog 91 ⟨1, 8, .fn, .val .nilFunc⟩ i d := by
  refine ⟨Try.t91, _, ⟨by kernel_rfl, Try.underlying91, by kernel_rfl, by kernel_rfl, by kernel_rfl, ?_, by kernel_rfl, by kernel_rfl, ?_⟩⟩
  · simp [SV.wf, nilSlice]
  · exact ⟨_, _, _, rfl⟩
theorem ty92 : ∃ i d, TOk Try.prog 92 ⟨1, 8, .ptr 5, .val (.pointer none)⟩ i d := by
  refine ⟨Try.t92, _, ⟨by kernel_rfl, Try.underlying92, by kernel_rfl, by kernel_rfl, by kernel_rfl, ?_, by kernel_rfl, by kernel_rfl, ?_⟩⟩
  · simp [SV.wf, nilSlice]
  · rfl
theorem ty93 : ∃ i d, TOk Try.prog 93 ⟨1, 4, .int .i32, .int .i32 0⟩ i d := by
  refine ⟨Try.t93, _, ⟨by kernel_rfl, Try.underlying93, by kernel_rfl, by kernel_rfl, by kernel_rfl, ?_, by kernel_rfl, by kernel_rfl, ?_⟩⟩
  · simp [SV.wf, nilSlice]
  · rfl
theorem ty94 : ∃ i d, TOk Try.prog 94 ⟨1, 4, .int .i32, .int .i32 0⟩ i d := by
  refine ⟨Try.t94, _, ⟨by kernel_rfl, Try.underlying94, by kernel_rfl, by kernel_rfl, by kernel_rfl, ?_, by kernel_rfl, by kernel_rfl, ?_⟩⟩
  · simp [SV.wf, nilSlice]
  · rfl
theorem ty95 : ∃ i d, TOk Try.prog 95 ⟨11, 48, .struct [(0, 12), (1, 12), (2, 88), (3, 89), (4, 5), (5, 5), (6, 90), (7, 91), (8, 92), (9, 93), (10, 94)], .agg [.int .u64 0, .int .u64 0, .int .u32 0, .int .u8 0, .int .u8 0, .int .u8 0, .int .u8 0, .val .nilFunc, .val (.pointer none), .int .i32 0, .int .i32 0]⟩ i d := by
  refine ⟨Try.t95, _, ⟨by kernel_rfl, Try.underlying95, by kernel_rfl, by kernel_rfl, by kernel_rfl, ?_, by kernel_rfl, by kernel_rfl, ?_⟩⟩
  · simp [SV.wf, SV.wfA, SV.nt, nilSlice, SV.sz, SV.sz.szL]
  · exact kok_struct _ _ _ rfl (by kernel_rfl) (by kernel_rfl)
theorem ty96 : ∃ i d, TOk Try.prog 96 ⟨11, 48, .struct [(0, 12), (1, 12), (2, 88), (3, 89), (4, 5), (5, 5), (6, 90), (7, 91), (8, 92), (9, 93), (10, 94)], .agg [.int .u64 0, .int .u64 0, .int .u32 0, .int .u8 0, .int .u8 0, .int .u8 0, .int .u8 0, .val .nilFunc, .val (.pointer none), .int .i32 0, .int .i32 0]⟩ i d := by
  refine ⟨Try.t96, _, ⟨by kernel_rfl, Try.underlying96, by kernel_rfl, by kernel_rfl, by kernel_rfl, ?_, by kernel_rfl, by kernel_rfl, ?_⟩⟩
  · simp [SV.wf, SV.wfA, SV.nt, nilSlice, SV.sz, SV.sz.szL]
  · exact kok_struct _ _ _ rfl (by kernel_rfl) (by kernel_rfl)
theorem tenv_ok : ∀ t ti, tenv t = some ti → ∃ i d, TOk Try.prog t ti i d := by
  intro t ti h
  unfold tenv at h
  split at h
  · injection h with h; subst h; exact ty1
  · injection h with h; subst h; exact ty2
  · injection h with h; subst h; exact ty3
  · injection h with h; subst h; exact ty4
  · injection h with h; subst h; exact ty5
  · injection h with h; subst h; exact ty6
  · injection h with h; subst h; exact ty7
  · injection h with h; subst h; exact ty8
  · injection h with h; subst h; exact ty9
  · injection h with h; subst h; exact ty10
  · injection h with h; subst h; exact ty11
  · injection h with h; subst h; exact ty12
  · injection h with h; subst h; exact ty13
  · injection h with h; subst h; exact ty14
  · injection h with h; subst h; exact ty15
  · injection h with h; subst h; exact ty16
  · injection h with h; subst h; exact ty17
  · injection h with h; subst h; exact ty18
  · injection h with h; subst h; exact ty19
  · injection h with h; subst h; exact ty20
  · injection h with h; subst h; exact ty21
  · injection h with h; subst h; exact ty22
  · injection h with h; subst h; exact ty23
  · injection h with h; subst h; exact ty24
  · injection h with h; subst h; exact ty25
  · injection h with h; subst h; exact ty26
  · injection h with h; subst h; exact ty27
  · injection h with h; subst h; exact ty28
  · injection h with h; subst h; exact ty29
  · injection h with h; subst h; exact ty30
  · injection h with h; subst h; exact ty31
  · injection h with h; subst h; exact ty32
  · injection h with h; subst h; exact ty33
  · injection h with h; subst h; exact ty34
  · injection h with h; subst h; exact ty35
  · injection h with h; subst h; exact ty36
  · injection h with h; subst h; exact ty37
  · injection h with h; subst h; exact ty38
  · injection h with h; subst h; exact ty39
  · injection h with h; subst h; exact ty41
  · injection h with h; subst h; exact ty42
  · injection h with h; subst h; exact ty43
  · injection h with h; subst h; exact ty44
  · injection h with h; subst h; exact ty45
  · injection h with h; subst h; exact ty46
  · injection h with h; subst h; exact ty47
  · injection h with h; subst h; exact ty48
  · injection h with h; subst h; exact ty49
  · injection h with h; subst h; exact ty50
  · injection h with h; subst h; exact ty51
  · injection h with h; subst h; exact ty52
  · injection h with h; subst h; exact ty53
  · injection h with h; subst h; exact ty54
  · injection h with h; subst h; exact ty55
  · injection h with h; subst h; exact ty56
  · injection h with h; subst h; exact ty57
  · injection h with h; subst h; exact ty58
  · injection h with h; subst h; exact ty59
  · injection h with h; subst h; exact ty60
  · injection h with h; subst h; exact ty61
  · injection h with h; subst h; exact ty62
  · injection h with h; subst h; exact ty63
  · injection h with h; subst h; exact ty64
  · injection h with h; subst h; exact ty65
  · injection h with h; subst h; exact ty66
  · injection h with h; subst h; exact ty67
  · injection h with h; subst h; exact ty68
  · injection h with h; subst h; exact ty69
  · injection h with h; subst h; exact ty70
  · injection h with h; subst h; exact ty71
  · injection h with h; subst h; exact ty72
  · injection h with h; subst h; exact ty73
  · injection h with h; subst h; exact ty74
  · injection h with h; subst h; exact ty75
  · injection h with h; subst h; exact ty76
  · injection h with h; subst h; exact ty77
  · injection h with h; subst h; exact ty78
  · injection h with h; subst h; exact ty79
  · injection h with h; subst h; exact ty80
  · injection h with h; subst h; exact ty81
  · injection h with h; subst h; exact ty82
  · injection h with h; subst h; exact ty83
  · injection h with h; subst h; exact ty84
  · injection h with h; subst h; exact ty87
  · injection h with h; subst h; exact ty88
  · injection h with h; subst h; exact ty89
  · injection h with h; subst h; exact ty90
  · injection h with h; subst h; exact ty91
  · injection h with h; subst h; exact ty92
  · injection h with h; subst h; exact ty93
  · injection h with h; subst h; exact ty94
  · injection h with h; subst h; exact ty95
  · injection h with h; subst h; exact ty96
  · cases h
end Eng
