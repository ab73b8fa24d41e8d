/-
  OWN WORK, written by a program of ours (gen_ty.py): the types of this seat, as the engine wants them.
-/
import Derived.Test.YtoefjmachoakpaaDoorEngK
namespace Eng
open Go Go.Proofs
set_option linter.unusedVariables false
set_option linter.unusedSimpArgs false
set_option maxRecDepth 100000

def tenv : TypeId → Option TI
  | 1 => some ⟨1, 8, .fn, .val .nilFunc⟩
  | 2 => some ⟨1, 8, .int .i64, .int .i64 0⟩
  | 3 => some ⟨1, 8, .int .i64, .int .i64 0⟩
  | 4 => some ⟨1, 1, .bool, .bool false⟩
  | 5 => some ⟨1, 1, .int .u8, .int .u8 0⟩
  | 6 => some ⟨1, 1, .int .u8, .int .u8 0⟩
  | 7 => some ⟨4, 24, .struct [(0, 2), (1, 3), (2, 4), (3, 6)], .agg [.int .i64 0, .int .i64 0, .bool false, .int .u8 0]⟩
  | 8 => some ⟨4, 24, .struct [(0, 2), (1, 3), (2, 4), (3, 6)], .agg [.int .i64 0, .int .i64 0, .bool false, .int .u8 0]⟩
  | 9 => some ⟨1, 16, .str, .str []⟩
  | 10 => some ⟨1, 16, .str, .str []⟩
  | 11 => some ⟨1, 16, .str, .str []⟩
  | 12 => some ⟨1, 8, .int .u64, .int .u64 0⟩
  | 13 => some ⟨2, 24, .struct [(0, 9), (1, 12)], .agg [.str [], .int .u64 0]⟩
  | 14 => some ⟨2, 24, .struct [(0, 9), (1, 12)], .agg [.str [], .int .u64 0]⟩
  | 15 => some ⟨1, 8, .ptr 148, .val (.pointer none)⟩
  | 16 => some ⟨1, 8, .ptr 151, .val (.pointer none)⟩
  | 17 => some ⟨1, 8, .ptr 160, .val (.pointer none)⟩
  | 18 => some ⟨1, 8, .struct [(0, 17)], .agg [.val (.pointer none)]⟩
  | 19 => some ⟨1, 8, .struct [(0, 17)], .agg [.val (.pointer none)]⟩
  | 20 => some ⟨1, 16, .iface, .val .nilIface⟩
  | 21 => some ⟨1, 4, .int .i32, .int .i32 0⟩
  | 22 => some ⟨1, 8, .fn, .val .nilFunc⟩
  | 23 => some ⟨1, 8, .int .i64, .int .i64 0⟩
  | 25 => some ⟨1, 8, .fn, .val .nilFunc⟩
  | 26 => some ⟨1, 8, .fn, .val .nilFunc⟩
  | 27 => some ⟨1, 8, .fn, .val .nilFunc⟩
  | 28 => some ⟨1, 24, .slice 53, nilSlice⟩
  | 29 => some ⟨1, 24, .slice 3, nilSlice⟩
  | 31 => some ⟨1, 8, .fn, .val .nilFunc⟩
  | 33 => some ⟨1, 8, .fn, .val .nilFunc⟩
  | 34 => some ⟨1, 8, .fn, .val .nilFunc⟩
  | 35 => some ⟨1, 24, .slice 5, nilSlice⟩
  | 36 => some ⟨1, 8, .fn, .val .nilFunc⟩
  | 37 => some ⟨2, 24, .struct [(0, 3), (1, 9)], .agg [.int .i64 0, .str []]⟩
  | 38 => some ⟨2, 24, .struct [(0, 3), (1, 9)], .agg [.int .i64 0, .str []]⟩
  | 39 => some ⟨1, 8, .fn, .val .nilFunc⟩
  | 41 => some ⟨1, 8, .fn, .val .nilFunc⟩
  | 42 => some ⟨1, 8, .fn, .val .nilFunc⟩
  | 43 => some ⟨8, 8, .arr 8 5, .arr 8 1 fun _ => .int .u8 0⟩
  | 45 => some ⟨1, 8, .fn, .val .nilFunc⟩
  | 46 => some ⟨1, 8, .fn, .val .nilFunc⟩
  | 47 => some ⟨1, 8, .fn, .val .nilFunc⟩
  | 48 => some ⟨1, 24, .slice 35, nilSlice⟩
  | 49 => some ⟨1, 8, .fn, .val .nilFunc⟩
  | 50 => some ⟨1, 24, .slice 9, nilSlice⟩
  | 51 => some ⟨1, 8, .fn, .val .nilFunc⟩
  | 52 => some ⟨3, 16, .struct [(0, 3), (1, 5), (2, 4)], .agg [.int .i64 0, .int .u8 0, .bool false]⟩
  | 53 => some ⟨3, 16, .struct [(0, 3), (1, 5), (2, 4)], .agg [.int .i64 0, .int .u8 0, .bool false]⟩
  | 54 => some ⟨1, 8, .fn, .val .nilFunc⟩
  | 55 => some ⟨1, 8, .fn, .val .nilFunc⟩
  | 56 => some ⟨1, 8, .fn, .val .nilFunc⟩
  | 57 => some ⟨1, 8, .fn, .val .nilFunc⟩
  | 59 => some ⟨1, 8, .fn, .val .nilFunc⟩
  | 61 => some ⟨1, 8, .fn, .val .nilFunc⟩
  | 62 => some ⟨1, 8, .fn, .val .nilFunc⟩
  | 63 => some ⟨1, 8, .fn, .val .nilFunc⟩
  | 64 => some ⟨1, 8, .fn, .val .nilFunc⟩
  | 65 => some ⟨1, 24, .slice 5, nilSlice⟩
  | 67 => some ⟨1, 8, .fn, .val .nilFunc⟩
  | 68 => some ⟨1, 8, .fn, .val .nilFunc⟩
  | 69 => some ⟨1, 8, .fn, .val .nilFunc⟩
  | 70 => some ⟨1, 8, .fn, .val .nilFunc⟩
  | 71 => some ⟨1, 8, .fn, .val .nilFunc⟩
  | 72 => some ⟨1, 8, .fn, .val .nilFunc⟩
  | 73 => some ⟨1, 8, .fn, .val .nilFunc⟩
  | 74 => some ⟨1, 8, .fn, .val .nilFunc⟩
  | 75 => some ⟨1, 8, .fn, .val .nilFunc⟩
  | 76 => some ⟨1, 8, .fn, .val .nilFunc⟩
  | 77 => some ⟨1, 8, .fn, .val .nilFunc⟩
  | 78 => some ⟨1, 8, .int .u64, .int .u64 0⟩
  | 79 => some ⟨1, 8, .fn, .val .nilFunc⟩
  | 80 => some ⟨1, 24, .slice 82, nilSlice⟩
  | 81 => some ⟨9, 9, .arr 9 5, .arr 9 1 fun _ => .int .u8 0⟩
  | 82 => some ⟨9, 9, .arr 9 5, .arr 9 1 fun _ => .int .u8 0⟩
  | 84 => some ⟨1, 8, .fn, .val .nilFunc⟩
  | 85 => some ⟨1, 8, .fn, .val .nilFunc⟩
  | 86 => some ⟨1, 24, .slice 29, nilSlice⟩
  | 87 => some ⟨1, 8, .fn, .val .nilFunc⟩
  | 88 => some ⟨1, 8, .fn, .val .nilFunc⟩
  | 89 => some ⟨1, 8, .fn, .val .nilFunc⟩
  | 90 => some ⟨1, 8, .fn, .val .nilFunc⟩
  | 91 => some ⟨1, 8, .ptr 96, .val (.pointer none)⟩
  | 92 => some ⟨1, 8, .fn, .val .nilFunc⟩
  | 93 => some ⟨255, 255, .arr 255 5, .arr 255 1 fun _ => .int .u8 0⟩
  | 94 => some ⟨256, 2048, .arr 256 3, .arr 256 1 fun _ => .int .i64 0⟩
  | 95 => some ⟨511, 2304, .struct [(0, 93), (255, 94)], .agg [.arr 255 1 fun _ => .int .u8 0, .arr 256 1 fun _ => .int .i64 0]⟩
  | 96 => some ⟨511, 2304, .struct [(0, 93), (255, 94)], .agg [.arr 255 1 fun _ => .int .u8 0, .arr 256 1 fun _ => .int .i64 0]⟩
  | 97 => some ⟨1, 8, .fn, .val .nilFunc⟩
  | 98 => some ⟨1, 8, .fn, .val .nilFunc⟩
  | 99 => some ⟨1, 8, .int .i64, .int .i64 0⟩
  | 101 => some ⟨1, 8, .fn, .val .nilFunc⟩
  | 102 => some ⟨1, 8, .fn, .val .nilFunc⟩
  | 103 => some ⟨1, 8, .fn, .val .nilFunc⟩
  | 104 => some ⟨1, 8, .fn, .val .nilFunc⟩
  | 106 => some ⟨1, 8, .fn, .val .nilFunc⟩
  | 107 => some ⟨1, 8, .fn, .val .nilFunc⟩
  | 108 => some ⟨1, 4, .int .u32, .int .u32 0⟩
  | 109 => some ⟨1, 8, .fn, .val .nilFunc⟩
  | 110 => some ⟨1, 8, .int .u64, .int .u64 0⟩
  | 111 => some ⟨0, 0, .struct [], .agg []⟩
  | 112 => some ⟨0, 0, .struct [], .agg []⟩
  | 113 => some ⟨1, 8, .fn, .val .nilFunc⟩
  | 114 => some ⟨1, 8, .fn, .val .nilFunc⟩
  | 115 => some ⟨256, 256, .arr 256 4, .arr 256 1 fun _ => .bool false⟩
  | 116 => some ⟨256, 256, .arr 256 4, .arr 256 1 fun _ => .bool false⟩
  | 118 => some ⟨1, 8, .fn, .val .nilFunc⟩
  | 119 => some ⟨1, 8, .fn, .val .nilFunc⟩
  | 120 => some ⟨1, 8, .ptr 116, .val (.pointer none)⟩
  | 121 => some ⟨1, 8, .int .u64, .int .u64 0⟩
  | 122 => some ⟨1, 8, .fn, .val .nilFunc⟩
  | 123 => some ⟨1, 8, .fn, .val .nilFunc⟩
  | 124 => some ⟨1, 8, .fn, .val .nilFunc⟩
  | 125 => some ⟨1, 8, .ptr 3, .val (.pointer none)⟩
  | 126 => some ⟨1, 8, .fn, .val .nilFunc⟩
  | 127 => some ⟨1, 8, .fn, .val .nilFunc⟩
  | 128 => some ⟨1, 8, .fn, .val .nilFunc⟩
  | 129 => some ⟨1, 8, .fn, .val .nilFunc⟩
  | 130 => some ⟨1, 8, .fn, .val .nilFunc⟩
  | 132 => some ⟨1, 8, .fn, .val .nilFunc⟩
  | 133 => some ⟨1, 8, .fn, .val .nilFunc⟩
  | 134 => some ⟨1, 8, .ptr 121, .val (.pointer none)⟩
  | 136 => some ⟨1, 8, .fn, .val .nilFunc⟩
  | 137 => some ⟨1, 8, .ptr 82, .val (.pointer none)⟩
  | 138 => some ⟨1, 8, .fn, .val .nilFunc⟩
  | 139 => some ⟨1, 8, .fn, .val .nilFunc⟩
  | 140 => some ⟨1, 8, .fn, .val .nilFunc⟩
  | 141 => some ⟨1, 8, .fn, .val .nilFunc⟩
  | 142 => some ⟨1, 8, .fn, .val .nilFunc⟩
  | 143 => some ⟨256, 256, .arr 256 5, .arr 256 1 fun _ => .int .u8 0⟩
  | 144 => some ⟨2, 2, .struct [(0, 5), (1, 5)], .agg [.int .u8 0, .int .u8 0]⟩
  | 145 => some ⟨2, 2, .struct [(0, 5), (1, 5)], .agg [.int .u8 0, .int .u8 0]⟩
  | 146 => some ⟨32, 32, .arr 16 145, .arr 16 2 fun _ => .agg [.int .u8 0, .int .u8 0]⟩
  | 147 => some ⟨4, 40, .struct [(0, 17), (1, 17), (2, 17), (3, 9)], .agg [.val (.pointer none), .val (.pointer none), .val (.pointer none), .str []]⟩
  | 148 => some ⟨4, 40, .struct [(0, 17), (1, 17), (2, 17), (3, 9)], .agg [.val (.pointer none), .val (.pointer none), .val (.pointer none), .str []]⟩
  | 149 => some ⟨0, 0, .arr 0 16, .arr 0 1 fun _ => .val (.pointer none)⟩
  | 152 => some ⟨1, 8, .fn, .val .nilFunc⟩
  | 153 => some ⟨1, 1, .int .u8, .int .u8 0⟩
  | 154 => some ⟨1, 1, .int .u8, .int .u8 0⟩
  | 155 => some ⟨1, 8, .fn, .val .nilFunc⟩
  | 156 => some ⟨1, 8, .ptr 5, .val (.pointer none)⟩
  | 157 => some ⟨1, 4, .int .i32, .int .i32 0⟩
  | 158 => some ⟨1, 4, .int .i32, .int .i32 0⟩
  | 159 => some ⟨11, 48, .struct [(0, 12), (1, 12), (2, 108), (3, 153), (4, 5), (5, 5), (6, 154), (7, 155), (8, 156), (9, 157), (10, 158)], .agg [.int .u64 0, .int .u64 0, .int .u32 0, .int .u8 0, .int .u8 0, .int .u8 0, .int .u8 0, .val .nilFunc, .val (.pointer none), .int .i32 0, .int .i32 0]⟩
  | 160 => some ⟨11, 48, .struct [(0, 12), (1, 12), (2, 108), (3, 153), (4, 5), (5, 5), (6, 154), (7, 155), (8, 156), (9, 157), (10, 158)], .agg [.int .u64 0, .int .u64 0, .int .u32 0, .int .u8 0, .int .u8 0, .int .u8 0, .int .u8 0, .val .nilFunc, .val (.pointer none), .int .i32 0, .int .i32 0]⟩
  | _ => none
theorem ty1 : ∃ i d, TOk Tryd.prog 1 ⟨1, 8, .fn, .val .nilFunc⟩ i d := by
  refine ⟨Tryd.t1, _, ⟨by kernel_rfl, Tryd.underlying1, by kernel_rfl, by kernel_rfl, by kernel_rfl, ?_, by kernel_rfl, by kernel_rfl, ?_⟩⟩
  · simp [SV.wf, nilSlice]
  · exact ⟨_, _, _, rfl⟩
theorem ty2 : ∃ i d, TOk Tryd.prog 2 ⟨1, 8, .int .i64, .int .i64 0⟩ i d := by
  refine ⟨Tryd.t2, _, ⟨by kernel_rfl, Tryd.underlying2, by kernel_rfl, by kernel_rfl, by kernel_rfl, ?_, by kernel_rfl, by kernel_rfl, ?_⟩⟩
  · simp [SV.wf, nilSlice]
  · rfl
theorem ty3 : ∃ i d, TOk Tryd.prog 3 ⟨1, 8, .int .i64, .int .i64 0⟩ i d := by
  refine ⟨Tryd.t3, _, ⟨by kernel_rfl, Tryd.underlying3, by kernel_rfl, by kernel_rfl, by kernel_rfl, ?_, by kernel_rfl, by kernel_rfl, ?_⟩⟩
  · simp [SV.wf, nilSlice]
  · rfl
theorem ty4 : ∃ i d, TOk Tryd.prog 4 ⟨1, 1, .bool, .bool false⟩ i d := by
  refine ⟨Tryd.t4, _, ⟨by kernel_rfl, Tryd.underlying4, by kernel_rfl, by kernel_rfl, by kernel_rfl, ?_, by kernel_rfl, by kernel_rfl, ?_⟩⟩
  · simp [SV.wf, nilSlice]
  · rfl
theorem ty5 : ∃ i d, TOk Tryd.prog 5 ⟨1, 1, .int .u8, .int .u8 0⟩ i d := by
  refine ⟨Tryd.t5, _, ⟨by kernel_rfl, Tryd.underlying5, by kernel_rfl, by kernel_rfl, by kernel_rfl, ?_, by kernel_rfl, by kernel_rfl, ?_⟩⟩
  · simp [SV.wf, nilSlice]
  · rfl
theorem ty6 : ∃ i d, TOk Tryd.prog 6 ⟨1, 1, .int .u8, .int .u8 0⟩ i d := by
  refine ⟨Tryd.t6, _, ⟨by kernel_rfl, Tryd.underlying6, by kernel_rfl, by kernel_rfl, by kernel_rfl, ?_, by kernel_rfl, by kernel_rfl, ?_⟩⟩
  · simp [SV.wf, nilSlice]
  · rfl
theorem ty7 : ∃ i d, TOk Tryd.prog 7 ⟨4, 24, .struct [(0, 2), (1, 3), (2, 4), (3, 6)], .agg [.int .i64 0, .int .i64 0, .bool false, .int .u8 0]⟩ i d := by
  refine ⟨Tryd.t7, _, ⟨by kernel_rfl, Tryd.underlying7, by kernel_rfl, by kernel_rfl, by kernel_rfl, ?_, by kernel_rfl, by kernel_rfl, ?_⟩⟩
  · simp [SV.wf, SV.wfA, SV.nt, nilSlice, SV.sz, SV.sz.szL]
  · exact kok_struct _ _ _ rfl (by kernel_rfl) (by kernel_rfl)
theorem ty8 : ∃ i d, TOk Tryd.prog 8 ⟨4, 24, .struct [(0, 2), (1, 3), (2, 4), (3, 6)], .agg [.int .i64 0, .int .i64 0, .bool false, .int .u8 0]⟩ i d := by
  refine ⟨Tryd.t8, _, ⟨by kernel_rfl, Tryd.underlying8, by kernel_rfl, by kernel_rfl, by kernel_rfl, ?_, by kernel_rfl, by kernel_rfl, ?_⟩⟩
  · simp [SV.wf, SV.wfA, SV.nt, nilSlice, SV.sz, SV.sz.szL]
  · exact kok_struct _ _ _ rfl (by kernel_rfl) (by kernel_rfl)
theorem ty9 : ∃ i d, TOk Tryd.prog 9 ⟨1, 16, .str, .str []⟩ i d := by
  refine ⟨Tryd.t9, _, ⟨by kernel_rfl, Tryd.underlying9, by kernel_rfl, by kernel_rfl, by kernel_rfl, ?_, by kernel_rfl, by kernel_rfl, ?_⟩⟩
  · simp [SV.wf, nilSlice]
  · rfl
theorem ty10 : ∃ i d, TOk Tryd.prog 10 ⟨1, 16, .str, .str []⟩ i d := by
  refine ⟨Tryd.t10, _, ⟨by kernel_rfl, Tryd.underlying10, by kernel_rfl, by kernel_rfl, by kernel_rfl, ?_, by kernel_rfl, by kernel_rfl, ?_⟩⟩
  · simp [SV.wf, nilSlice]
  · rfl
theorem ty11 : ∃ i d, TOk Tryd.prog 11 ⟨1, 16, .str, .str []⟩ i d := by
  refine ⟨Tryd.t11, _, ⟨by kernel_rfl, Tryd.underlying11, by kernel_rfl, by kernel_rfl, by kernel_rfl, ?_, by kernel_rfl, by kernel_rfl, ?_⟩⟩
  · simp [SV.wf, nilSlice]
  · rfl
theorem ty12 : ∃ i d, TOk Tryd.prog 12 ⟨1, 8, .int .u64, .int .u64 0⟩ i d := by
  refine ⟨Tryd.t12, _, ⟨by kernel_rfl, Tryd.underlying12, by kernel_rfl, by kernel_rfl, by kernel_rfl, ?_, by kernel_rfl, by kernel_rfl, ?_⟩⟩
  · simp [SV.wf, nilSlice]
  · rfl
theorem ty13 : ∃ i d, TOk Tryd.prog 13 ⟨2, 24, .struct [(0, 9), (1, 12)], .agg [.str [], .int .u64 0]⟩ i d := by
  refine ⟨Tryd.t13, _, ⟨by kernel_rfl, Tryd.underlying13, by kernel_rfl, by kernel_rfl, by kernel_rfl, ?_, by kernel_rfl, by kernel_rfl, ?_⟩⟩
  · simp [SV.wf, SV.wfA, SV.nt, nilSlice, SV.sz, SV.sz.szL]
  · exact kok_struct _ _ _ rfl (by kernel_rfl) (by kernel_rfl)
theorem ty14 : ∃ i d, TOk Tryd.prog 14 ⟨2, 24, .struct [(0, 9), (1, 12)], .agg [.str [], .int .u64 0]⟩ i d := by
  refine ⟨Tryd.t14, _, ⟨by kernel_rfl, Tryd.underlying14, by kernel_rfl, by kernel_rfl, by kernel_rfl, ?_, by kernel_rfl, by kernel_rfl, ?_⟩⟩
  · simp [SV.wf, SV.wfA, SV.nt, nilSlice, SV.sz, SV.sz.szL]
  · exact kok_struct _ _ _ rfl (by kernel_rfl) (by kernel_rfl)
theorem ty15 : ∃ i d, TOk Tryd.prog 15 ⟨1, 8, .ptr 148, .val (.pointer none)⟩ i d := by
  refine ⟨Tryd.t15, _, ⟨by kernel_rfl, Tryd.underlying15, by kernel_rfl, by kernel_rfl, by kernel_rfl, ?_, by kernel_rfl, by kernel_rfl, ?_⟩⟩
  · simp [SV.wf, nilSlice]
  · rfl
theorem ty16 : ∃ i d, TOk Tryd.prog 16 ⟨1, 8, .ptr 151, .val (.pointer none)⟩ i d := by
  refine ⟨Tryd.t16, _, ⟨by kernel_rfl, Tryd.underlying16, by kernel_rfl, by kernel_rfl, by kernel_rfl, ?_, by kernel_rfl, by kernel_rfl, ?_⟩⟩
  · simp [SV.wf, nilSlice]
  · rfl
theorem ty17 : ∃ i d, TOk Tryd.prog 17 ⟨1, 8, .ptr 160, .val (.pointer none)⟩ i d := by
  refine ⟨Tryd.t17, _, ⟨by kernel_rfl, Tryd.underlying17, by kernel_rfl, by kernel_rfl, by kernel_rfl, ?_, by kernel_rfl, by kernel_rfl, ?_⟩⟩
  · simp [SV.wf, nilSlice]
  · rfl
theorem ty18 : ∃ i d, TOk Tryd.prog 18 ⟨1, 8, .struct [(0, 17)], .agg [.val (.pointer none)]⟩ i d := by
  refine ⟨Tryd.t18, _, ⟨by kernel_rfl, Tryd.underlying18, by kernel_rfl, by kernel_rfl, by kernel_rfl, ?_, by kernel_rfl, by kernel_rfl, ?_⟩⟩
  · simp [SV.wf, SV.wfA, SV.nt, nilSlice, SV.sz, SV.sz.szL]
  · exact kok_struct _ _ _ rfl (by kernel_rfl) (by kernel_rfl)
theorem ty19 : ∃ i d, TOk Tryd.prog 19 ⟨1, 8, .struct [(0, 17)], .agg [.val (.pointer none)]⟩ i d := by
  refine ⟨Tryd.t19, _, ⟨by kernel_rfl, Tryd.underlying19, by kernel_rfl, by kernel_rfl, by kernel_rfl, ?_, by kernel_rfl, by kernel_rfl, ?_⟩⟩
  · simp [SV.wf, SV.wfA, SV.nt, nilSlice, SV.sz, SV.sz.szL]
  · exact kok_struct _ _ _ rfl (by kernel_rfl) (by kernel_rfl)
theorem ty20 : ∃ i d, TOk Tryd.prog 20 ⟨1, 16, .iface, .val .nilIface⟩ i d := by
  refine ⟨Tryd.t20, _, ⟨by kernel_rfl, Tryd.underlying20, by kernel_rfl, by kernel_rfl, by kernel_rfl, ?_, by kernel_rfl, by kernel_rfl, ?_⟩⟩
  · simp [SV.wf, nilSlice]
  · exact ⟨_, rfl⟩
theorem ty21 : ∃ i d, TOk Tryd.prog 21 ⟨1, 4, .int .i32, .int .i32 0⟩ i d := by
  refine ⟨Tryd.t21, _, ⟨by kernel_rfl, Tryd.underlying21, by kernel_rfl, by kernel_rfl, by kernel_rfl, ?_, by kernel_rfl, by kernel_rfl, ?_⟩⟩
  · simp [SV.wf, nilSlice]
  · rfl
theorem ty22 : ∃ i d, TOk Tryd.prog 22 ⟨1, 8, .fn, .val .nilFunc⟩ i d := by
  refine ⟨Tryd.t22, _, ⟨by kernel_rfl, Tryd.underlying22, by kernel_rfl, by kernel_rfl, by kernel_rfl, ?_, by kernel_rfl, by kernel_rfl, ?_⟩⟩
  · simp [SV.wf, nilSlice]
  · exact ⟨_, _, _, rfl⟩
theorem ty23 : ∃ i d, TOk Tryd.prog 23 ⟨1, 8, .int .i64, .int .i64 0⟩ i d := by
  refine ⟨Tryd.t23, _, ⟨by kernel_rfl, Tryd.underlying23, by kernel_rfl, by kernel_rfl, by kernel_rfl, ?_, by kernel_rfl, by kernel_rfl, ?_⟩⟩
  · simp [SV.wf, nilSlice]
  · rfl
theorem ty25 : ∃ i d, TOk Tryd.prog 25 ⟨1, 8, .fn, .val .nilFunc⟩ i d := by
  refine ⟨Tryd.t25, _, ⟨by kernel_rfl, Tryd.underlying25, by kernel_rfl, by kernel_rfl, by kernel_rfl, ?_, by kernel_rfl, by kernel_rfl, ?_⟩⟩
  · simp [SV.wf, nilSlice]
  · exact ⟨_, _, _, rfl⟩
theorem ty26 : ∃ i d, TOk Tryd.prog 26 ⟨1, 8, .fn, .val .nilFunc⟩ i d := by
  refine ⟨Tryd.t26, _, ⟨by kernel_rfl, Tryd.underlying26, by kernel_rfl, by kernel_rfl, by kernel_rfl, ?_, by kernel_rfl, by kernel_rfl, ?_⟩⟩
  · simp [SV.wf, nilSlice]
  · exact ⟨_, _, _, rfl⟩
theorem ty27 : ∃ i d, TOk Tryd.prog 27 ⟨1, 8, .fn, .val .nilFunc⟩ i d := by
  refine ⟨Tryd.t27, _, ⟨by kernel_rfl, Tryd.underlying27, by kernel_rfl, by kernel_rfl, by kernel_rfl, ?_, by kernel_rfl, by kernel_rfl, ?_⟩⟩
  · simp [SV.wf, nilSlice]
  · exact ⟨_, _, _, rfl⟩
theorem ty28 : ∃ i d, TOk Tryd.prog 28 ⟨1, 24, .slice 53, nilSlice⟩ i d := by
  refine ⟨Tryd.t28, _, ⟨by kernel_rfl, Tryd.underlying28, by kernel_rfl, by kernel_rfl, by kernel_rfl, ?_, by kernel_rfl, by kernel_rfl, ?_⟩⟩
  · simp [SV.wf, nilSlice]
  · rfl
theorem ty29 : ∃ i d, TOk Tryd.prog 29 ⟨1, 24, .slice 3, nilSlice⟩ i d := by
  refine ⟨Tryd.t29, _, ⟨by kernel_rfl, Tryd.underlying29, by kernel_rfl, by kernel_rfl, by kernel_rfl, ?_, by kernel_rfl, by kernel_rfl, ?_⟩⟩
  · simp [SV.wf, nilSlice]
  · rfl
theorem ty31 : ∃ i d, TOk Tryd.prog 31 ⟨1, 8, .fn, .val .nilFunc⟩ i d := by
  refine ⟨Tryd.t31, _, ⟨by kernel_rfl, Tryd.underlying31, by kernel_rfl, by kernel_rfl, by kernel_rfl, ?_, by kernel_rfl, by kernel_rfl, ?_⟩⟩
  · simp [SV.wf, nilSlice]
  · exact ⟨_, _, _, rfl⟩
theorem ty33 : ∃ i d, TOk Tryd.prog 33 ⟨1, 8, .fn, .val .nilFunc⟩ i d := by
  refine ⟨Tryd.t33, _, ⟨by kernel_rfl, Tryd.underlying33, by kernel_rfl, by kernel_rfl, by kernel_rfl, ?_, by kernel_rfl, by kernel_rfl, ?_⟩⟩
  · simp [SV.wf, nilSlice]
  · exact ⟨_, _, _, rfl⟩
theorem ty34 : ∃ i d, TOk Tryd.prog 34 ⟨1, 8, .fn, .val .nilFunc⟩ i d := by
  refine ⟨Tryd.t34, _, ⟨by kernel_rfl, Tryd.underlying34, by kernel_rfl, by kernel_rfl, by kernel_rfl, ?_, by kernel_rfl, by kernel_rfl, ?_⟩⟩
  · simp [SV.wf, nilSlice]
  · exact ⟨_, _, _, rfl⟩
theorem ty35 : ∃ i d, TOk Tryd.prog 35 ⟨1, 24, .slice 5, nilSlice⟩ i d := by
  refine ⟨Tryd.t35, _, ⟨by kernel_rfl, Tryd.underlying35, by kernel_rfl, by kernel_rfl, by kernel_rfl, ?_, by kernel_rfl, by kernel_rfl, ?_⟩⟩
  · simp [SV.wf, nilSlice]
  · rfl
theorem ty36 : ∃ i d, TOk Tryd.prog 36 ⟨1, 8, .fn, .val .nilFunc⟩ i d := by
  refine ⟨Tryd.t36, _, ⟨by kernel_rfl, Tryd.underlying36, by kernel_rfl, by kernel_rfl, by kernel_rfl, ?_, by kernel_rfl, by kernel_rfl, ?_⟩⟩
  · simp [SV.wf, nilSlice]
  · exact ⟨_, _, _, rfl⟩
theorem ty37 : ∃ i d, TOk Tryd.prog 37 ⟨2, 24, .struct [(0, 3), (1, 9)], .agg [.int .i64 0, .str []]⟩ i d := by
  refine ⟨Tryd.t37, _, ⟨by kernel_rfl, Tryd.underlying37, by kernel_rfl, by kernel_rfl, by kernel_rfl, ?_, by kernel_rfl, by kernel_rfl, ?_⟩⟩
  · simp [SV.wf, SV.wfA, SV.nt, nilSlice, SV.sz, SV.sz.szL]
  · exact kok_struct _ _ _ rfl (by kernel_rfl) (by kernel_rfl)
theorem ty38 : ∃ i d, TOk Tryd.prog 38 ⟨2, 24, .struct [(0, 3), (1, 9)], .agg [.int .i64 0, .str []]⟩ i d := by
  refine ⟨Tryd.t38, _, ⟨by kernel_rfl, Tryd.underlying38, by kernel_rfl, by kernel_rfl, by kernel_rfl, ?_, by kernel_rfl, by kernel_rfl, ?_⟩⟩
  · simp [SV.wf, SV.wfA, SV.nt, nilSlice, SV.sz, SV.sz.szL]
  · exact kok_struct _ _ _ rfl (by kernel_rfl) (by kernel_rfl)
theorem ty39 : ∃ i d, TOk Tryd.prog 39 ⟨1, 8, .fn, .val .nilFunc⟩ i d := by
  refine ⟨Tryd.t39, _, ⟨by kernel_rfl, Tryd.underlying39, by kernel_rfl, by kernel_rfl, by kernel_rfl, ?_, by kernel_rfl, by kernel_rfl, ?_⟩⟩
  · simp [SV.wf, nilSlice]
  · exact ⟨_, _, _, rfl⟩
theorem ty41 : ∃ i d, TOk Tryd.prog 41 ⟨1, 8, .fn, .val .nilFunc⟩ i d := by
  refine ⟨Tryd.t41, _, ⟨by kernel_rfl, Tryd.underlying41, by kernel_rfl, by kernel_rfl, by kernel_rfl, ?_, by kernel_rfl, by kernel_rfl, ?_⟩⟩
  · simp [SV.wf, nilSlice]
  · exact ⟨_, _, _, rfl⟩
theorem ty42 : ∃ i d, TOk Tryd.prog 42 ⟨1, 8, .fn, .val .nilFunc⟩ i d := by
  refine ⟨Tryd.t42, _, ⟨by kernel_rfl, Tryd.underlying42, by kernel_rfl, by kernel_rfl, by kernel_rfl, ?_, by kernel_rfl, by kernel_rfl, ?_⟩⟩
  · simp [SV.wf, nilSlice]
  · exact ⟨_, _, _, rfl⟩
theorem ty43 : ∃ i d, TOk Tryd.prog 43 ⟨8, 8, .arr 8 5, .arr 8 1 fun _ => .int .u8 0⟩ i d := by
  refine ⟨Tryd.t43, _, ⟨by kernel_rfl, Tryd.underlying43, by kernel_rfl, by kernel_rfl, by kernel_rfl, ?_, by kernel_rfl, by kernel_rfl, ?_⟩⟩
  · simp [SV.wf, SV.wfA, SV.nt, nilSlice, SV.sz, SV.sz.szL]
  · rfl
theorem ty45 : ∃ i d, TOk Tryd.prog 45 ⟨1, 8, .fn, .val .nilFunc⟩ i d := by
  refine ⟨Tryd.t45, _, ⟨by kernel_rfl, Tryd.underlying45, by kernel_rfl, by kernel_rfl, by kernel_rfl, ?_, by kernel_rfl, by kernel_rfl, ?_⟩⟩
  · simp [SV.wf, nilSlice]
  · exact ⟨_, _, _, rfl⟩
theorem ty46 : ∃ i d, TOk Tryd.prog 46 ⟨1, 8, .fn, .val .nilFunc⟩ i d := by
  refine ⟨Tryd.t46, _, ⟨by kernel_rfl, Tryd.underlying46, by kernel_rfl, by kernel_rfl, by kernel_rfl, ?_, by kernel_rfl, by kernel_rfl, ?_⟩⟩
  · simp [SV.wf, nilSlice]
  · exact ⟨_, _, _, rfl⟩
theorem ty47 : ∃ i d, TOk Tryd.prog 47 ⟨1, 8, .fn, .val .nilFunc⟩ i d := by
  refine ⟨Tryd.t47, _, ⟨by kernel_rfl, Tryd.underlying47, by kernel_rfl, by kernel_rfl, by kernel_rfl, ?_, by kernel_rfl, by kernel_rfl, ?_⟩⟩
  · simp [SV.wf, nilSlice]
  · exact ⟨_, _, _, rfl⟩
theorem ty48 : ∃ i d, TOk Tryd.prog 48 ⟨1, 24, .slice 35, nilSlice⟩ i d := by
  refine ⟨Tryd.t48, _, ⟨by kernel_rfl, Tryd.underlying48, by kernel_rfl, by kernel_rfl, by kernel_rfl, ?_, by kernel_rfl, by kernel_rfl, ?_⟩⟩
  · simp [SV.wf, nilSlice]
  · rfl
theorem ty49 : ∃ i d, TOk Tryd.prog 49 ⟨1, 8, .fn, .val .nilFunc⟩ i d := by
  refine ⟨Tryd.t49, _, ⟨by kernel_rfl, Tryd.underlying49, by kernel_rfl, by kernel_rfl, by kernel_rfl, ?_, by kernel_rfl, by kernel_rfl, ?_⟩⟩
  · simp [SV.wf, nilSlice]
  · exact ⟨_, _, _, rfl⟩
theorem ty50 : ∃ i d, TOk Tryd.prog 50 ⟨1, 24, .slice 9, nilSlice⟩ i d := by
  refine ⟨Tryd.t50, _, ⟨by kernel_rfl, Tryd.underlying50, by kernel_rfl, by kernel_rfl, by kernel_rfl, ?_, by kernel_rfl, by kernel_rfl, ?_⟩⟩
  · simp [SV.wf, nilSlice]
  · rfl
theorem ty51 : ∃ i d, TOk Tryd.prog 51 ⟨1, 8, .fn, .val .nilFunc⟩ i d := by
  refine ⟨Tryd.t51, _, ⟨by kernel_rfl, Tryd.underlying51, by kernel_rfl, by kernel_rfl, by kernel_rfl, ?_, by kernel_rfl, by kernel_rfl, ?_⟩⟩
  · simp [SV.wf, nilSlice]
  · exact ⟨_, _, _, rfl⟩
theorem ty52 : ∃ i d, TOk Tryd.prog 52 ⟨3, 16, .struct [(0, 3), (1, 5), (2, 4)], .agg [.int .i64 0, .int .u8 0, .bool false]⟩ i d := by
  refine ⟨Tryd.t52, _, ⟨by kernel_rfl, Tryd.underlying52, by kernel_rfl, by kernel_rfl, by kernel_rfl, ?_, by kernel_rfl, by kernel_rfl, ?_⟩⟩
  · simp [SV.wf, SV.wfA, SV.nt, nilSlice, SV.sz, SV.sz.szL]
  · exact kok_struct _ _ _ rfl (by kernel_rfl) (by kernel_rfl)
theorem ty53 : ∃ i d, TOk Tryd.prog 53 ⟨3, 16, .struct [(0, 3), (1, 5), (2, 4)], .agg [.int .i64 0, .int .u8 0, .bool false]⟩ i d := by
  refine ⟨Tryd.t53, _, ⟨by kernel_rfl, Tryd.underlying53, by kernel_rfl, by kernel_rfl, by kernel_rfl, ?_, by kernel_rfl, by kernel_rfl, ?_⟩⟩
  · simp [SV.wf, SV.wfA, SV.nt, nilSlice, SV.sz, SV.sz.szL]
  · exact kok_struct _ _ _ rfl (by kernel_rfl) (by kernel_rfl)
theorem ty54 : ∃ i d, TOk Tryd.prog 54 ⟨1, 8, .fn, .val .nilFunc⟩ i d := by
  refine ⟨Tryd.t54, _, ⟨by kernel_rfl, Tryd.underlying54, by kernel_rfl, by kernel_rfl, by kernel_rfl, ?_, by kernel_rfl, by kernel_rfl, ?_⟩⟩
  · simp [SV.wf, nilSlice]
  · exact ⟨_, _, _, rfl⟩
theorem ty55 : ∃ i d, TOk Tryd.prog 55 ⟨1, 8, .fn, .val .nilFunc⟩ i d := by
  refine ⟨Tryd.t55, _, ⟨by kernel_rfl, Tryd.underlying55, by kernel_rfl, by kernel_rfl, by kernel_rfl, ?_, by kernel_rfl, by kernel_rfl, ?_⟩⟩
  · simp [SV.wf, nilSlice]
  · exact ⟨_, _, _, rfl⟩
theorem ty56 : ∃ i d, TOk Tryd.prog 56 ⟨1, 8, .fn, .val .nilFunc⟩ i d := by
  refine ⟨Tryd.t56, _, ⟨by kernel_rfl, Tryd.underlying56, by kernel_rfl, by kernel_rfl, by kernel_rfl, ?_, by kernel_rfl, by kernel_rfl, ?_⟩⟩
  · simp [SV.wf, nilSlice]
  · exact ⟨_, _, _, rfl⟩
theorem ty57 : ∃ i d, TOk Tryd.prog 57 ⟨1, 8, .fn, .val .nilFunc⟩ i d := by
  refine ⟨Tryd.t57, _, ⟨by kernel_rfl, Tryd.underlying57, by kernel_rfl, by kernel_rfl, by kernel_rfl, ?_, by kernel_rfl, by kernel_rfl, ?_⟩⟩
  · simp [SV.wf, nilSlice]
  · exact ⟨_, _, _, rfl⟩
theorem ty59 : ∃ i d, TOk Tryd.prog 59 ⟨1, 8, .fn, .val .nilFunc⟩ i d := by
  refine ⟨Tryd.t59, _, ⟨by kernel_rfl, Tryd.underlying59, by kernel_rfl, by kernel_rfl, by kernel_rfl, ?_, by kernel_rfl, by kernel_rfl, ?_⟩⟩
  · simp [SV.wf, nilSlice]
  · exact ⟨_, _, _, rfl⟩
theorem ty61 : ∃ i d, TOk Tryd.prog 61 ⟨1, 8, .fn, .val .nilFunc⟩ i d := by
  refine ⟨Tryd.t61, _, ⟨by kernel_rfl, Tryd.underlying61, by kernel_rfl, by kernel_rfl, by kernel_rfl, ?_, by kernel_rfl, by kernel_rfl, ?_⟩⟩
  · simp [SV.wf, nilSlice]
  · exact ⟨_, _, _, rfl⟩
theorem ty62 : ∃ i d, TOk Tryd.prog 62 ⟨1, 8, .fn, .val .nilFunc⟩ i d := by
  refine ⟨Tryd.t62, _, ⟨by kernel_rfl, Tryd.underlying62, by kernel_rfl, by kernel_rfl, by kernel_rfl, ?_, by kernel_rfl, by kernel_rfl, ?_⟩⟩
  · simp [SV.wf, nilSlice]
  · exact ⟨_, _, _, rfl⟩
theorem ty63 : ∃ i d, TOk Tryd.prog 63 ⟨1, 8, .fn, .val .nilFunc⟩ i d := by
  refine ⟨Tryd.t63, _, ⟨by kernel_rfl, Tryd.underlying63, by kernel_rfl, by kernel_rfl, by kernel_rfl, ?_, by kernel_rfl, by kernel_rfl, ?_⟩⟩
  · simp [SV.wf, nilSlice]
  · exact ⟨_, _, _, rfl⟩
theorem ty64 : ∃ i d, TOk Tryd.prog 64 ⟨1, 8, .fn, .val .nilFunc⟩ i d := by
  refine ⟨Tryd.t64, _, ⟨by kernel_rfl, Tryd.underlying64, by kernel_rfl, by kernel_rfl, by kernel_rfl, ?_, by kernel_rfl, by kernel_rfl, ?_⟩⟩
  · simp [SV.wf, nilSlice]
  · exact ⟨_, _, _, rfl⟩
theorem ty65 : ∃ i d, TOk Tryd.prog 65 ⟨1, 24, .slice 5, nilSlice⟩ i d := by
  refine ⟨Tryd.t65, _, ⟨by kernel_rfl, Tryd.underlying65, by kernel_rfl, by kernel_rfl, by kernel_rfl, ?_, by kernel_rfl, by kernel_rfl, ?_⟩⟩
  · simp [SV.wf, nilSlice]
  · rfl
theorem ty67 : ∃ i d, TOk Tryd.prog 67 ⟨1, 8, .fn, .val .nilFunc⟩ i d := by
  refine ⟨Tryd.t67, _, ⟨by kernel_rfl, Tryd.underlying67, by kernel_rfl, by kernel_rfl, by kernel_rfl, ?_, by kernel_rfl, by kernel_rfl, ?_⟩⟩
  · simp [SV.wf, nilSlice]
  · exact ⟨_, _, _, rfl⟩
theorem ty68 : ∃ i d, TOk Tryd.prog 68 ⟨1, 8, .fn, .val .nilFunc⟩ i d := by
  refine ⟨Tryd.t68, _, ⟨by kernel_rfl, Tryd.underlying68, by kernel_rfl, by kernel_rfl, by kernel_rfl, ?_, by kernel_rfl, by kernel_rfl, ?_⟩⟩
  · simp [SV.wf, nilSlice]
  · exact ⟨_, _, _, rfl⟩
theorem ty69 : ∃ i d, TOk Tryd.prog 69 ⟨1, 8, .fn, .val .nilFunc⟩ i d := by
  refine ⟨Tryd.t69, _, ⟨by kernel_rfl, Tryd.underlying69, by kernel_rfl, by kernel_rfl, by kernel_rfl, ?_, by kernel_rfl, by kernel_rfl, ?_⟩⟩
  · simp [SV.wf, nilSlice]
  · exact ⟨_, _, _, rfl⟩
theorem ty70 : ∃ i d, TOk Tryd.prog 70 ⟨1, 8, .fn, .val .nilFunc⟩ i d := by
  refine ⟨Tryd.t70, _, ⟨by kernel_rfl, Tryd.underlying70, by kernel_rfl, by kernel_rfl, by kernel_rfl, ?_, by kernel_rfl, by kernel_rfl, ?_⟩⟩
  · simp [SV.wf, nilSlice]
  · exact ⟨_, _, _, rfl⟩
theorem ty71 : ∃ i d, TOk Tryd.prog 71 ⟨1, 8, .fn, .val .nilFunc⟩ i d := by
  refine ⟨Tryd.t71, _, ⟨by kernel_rfl, Tryd.underlying71, by kernel_rfl, by kernel_rfl, by kernel_rfl, ?_, by kernel_rfl, by kernel_rfl, ?_⟩⟩
  · simp [SV.wf, nilSlice]
  · exact ⟨_, _, _, rfl⟩
theorem ty72 : ∃ i d, TOk Tryd.prog 72 ⟨1, 8, .fn, .val .nilFunc⟩ i d := by
  refine ⟨Tryd.t72, _, ⟨by kernel_rfl, Tryd.underlying72, by kernel_rfl, by kernel_rfl, by kernel_rfl, ?_, by kernel_rfl, by kernel_rfl, ?_⟩⟩
  · simp [SV.wf, nilSlice]
  · exact ⟨_, _, _, rfl⟩
theorem ty73 : ∃ i d, TOk Tryd.prog 73 ⟨1, 8, .fn, .val .nilFunc⟩ i d := by
  refine ⟨Tryd.t73, _, ⟨by kernel_rfl, Tryd.underlying73, by kernel_rfl, by kernel_rfl, by kernel_rfl, ?_, by kernel_rfl, by kernel_rfl, ?_⟩⟩
  · simp [SV.wf, nilSlice]
  · exact ⟨_, _, _, rfl⟩
theorem ty74 : ∃ i d, TOk Tryd.prog 74 ⟨1, 8, .fn, .val .nilFunc⟩ i d := by
  refine ⟨Tryd.t74, _, ⟨by kernel_rfl, Tryd.underlying74, by kernel_rfl, by kernel_rfl, by kernel_rfl, ?_, by kernel_rfl, by kernel_rfl, ?_⟩⟩
  · simp [SV.wf, nilSlice]
  · exact ⟨_, _, _, rfl⟩
theorem ty75 : ∃ i d, TOk Tryd.prog 75 ⟨1, 8, .fn, .val .nilFunc⟩ i d := by
  refine ⟨Tryd.t75, _, ⟨by kernel_rfl, Tryd.underlying75, by kernel_rfl, by kernel_rfl, by kernel_rfl, ?_, by kernel_rfl, by kernel_rfl, ?_⟩⟩
  · simp [SV.wf, nilSlice]
  · exact ⟨_, _, _, rfl⟩
theorem ty76 : ∃ i d, TOk Tryd.prog 76 ⟨1, 8, .fn, .val .nilFunc⟩ i d := by
  refine ⟨Tryd.t76, _, ⟨by kernel_rfl, Tryd.underlying76, by kernel_rfl, by kernel_rfl, by kernel_rfl, ?_, by kernel_rfl, by kernel_rfl, ?_⟩⟩
  · simp [SV.wf, nilSlice]
  · exact ⟨_, _, _, rfl⟩
theorem ty77 : ∃ i d, TOk Tryd.prog 77 ⟨1, 8, .fn, .val .nilFunc⟩ i d := by
  refine ⟨Tryd.t77, _, ⟨by kernel_rfl, Tryd.underlying77, by kernel_rfl, by kernel_rfl, by kernel_rfl, ?_, by kernel_rfl, by kernel_rfl, ?_⟩⟩
  · simp [SV.wf, nilSlice]
  · exact ⟨_, _, _, rfl⟩
theorem ty78 : ∃ i d, TOk Tryd.prog 78 ⟨1, 8, .int .u64, .int .u64 0⟩ i d := by
  refine ⟨Tryd.t78, _, ⟨by kernel_rfl, Tryd.underlying78, by kernel_rfl, by kernel_rfl, by kernel_rfl, ?_, by kernel_rfl, by kernel_rfl, ?_⟩⟩
  · simp [SV.wf, nilSlice]
  · rfl
theorem ty79 : ∃ i d, TOk Tryd.prog 79 ⟨1, 8, .fn, .val .nilFunc⟩ i d := by
  refine ⟨Tryd.t79, _, ⟨by kernel_rfl, Tryd.underlying79, by kernel_rfl, by kernel_rfl, by kernel_rfl, ?_, by kernel_rfl, by kernel_rfl, ?_⟩⟩
  · simp [SV.wf, nilSlice]
  · exact ⟨_, _, _, rfl⟩
theorem ty80 : ∃ i d, TOk Tryd.prog 80 ⟨1, 24, .slice 82, nilSlice⟩ i d := by
  refine ⟨Tryd.t80, _, ⟨by kernel_rfl, Tryd.underlying80, by kernel_rfl, by kernel_rfl, by kernel_rfl, ?_, by kernel_rfl, by kernel_rfl, ?_⟩⟩
  · simp [SV.wf, nilSlice]
  · rfl
theorem ty81 : ∃ i d, TOk Tryd.prog 81 ⟨9, 9, .arr 9 5, .arr 9 1 fun _ => .int .u8 0⟩ i d := by
  refine ⟨Tryd.t81, _, ⟨by kernel_rfl, Tryd.underlying81, by kernel_rfl, by kernel_rfl, by kernel_rfl, ?_, by kernel_rfl, by kernel_rfl, ?_⟩⟩
  · simp [SV.wf, SV.wfA, SV.nt, nilSlice, SV.sz, SV.sz.szL]
  · rfl
theorem ty82 : ∃ i d, TOk Tryd.prog 82 ⟨9, 9, .arr 9 5, .arr 9 1 fun _ => .int .u8 0⟩ i d := by
  refine ⟨Tryd.t82, _, ⟨by kernel_rfl, Tryd.underlying82, by kernel_rfl, by kernel_rfl, by kernel_rfl, ?_, by kernel_rfl, by kernel_rfl, ?_⟩⟩
  · simp [SV.wf, SV.wfA, SV.nt, nilSlice, SV.sz, SV.sz.szL]
  · rfl
theorem ty84 : ∃ i d, TOk Tryd.prog 84 ⟨1, 8, .fn, .val .nilFunc⟩ i d := by
  refine ⟨Tryd.t84, _, ⟨by kernel_rfl, Tryd.underlying84, by kernel_rfl, by kernel_rfl, by kernel_rfl, ?_, by kernel_rfl, by kernel_rfl, ?_⟩⟩
  · simp [SV.wf, nilSlice]
  · exact ⟨_, _, _, rfl⟩
theorem ty85 : ∃ i d, TOk Tryd.prog 85 ⟨1, 8, .fn, .val .nilFunc⟩ i d := by
  refine ⟨Tryd.t85, _, ⟨by kernel_rfl, Tryd.underlying85, by kernel_rfl, by kernel_rfl, by kernel_rfl, ?_, by kernel_rfl, by kernel_rfl, ?_⟩⟩
  · simp [SV.wf, nilSlice]
  · exact ⟨_, _, _, rfl⟩
theorem ty86 : ∃ i d, TOk Tryd.prog 86 ⟨1, 24, .slice 29, nilSlice⟩ i d := by
  refine ⟨Tryd.t86, _, ⟨by kernel_rfl, Tryd.underlying86, by kernel_rfl, by kernel_rfl, by kernel_rfl, ?_, by kernel_rfl, by kernel_rfl, ?_⟩⟩
  · simp [SV.wf, nilSlice]
  · rfl
theorem ty87 : ∃ i d, TOk Tryd.prog 87 ⟨1, 8, .fn, .val .nilFunc⟩ i d := by
  refine ⟨Tryd.t87, _, ⟨by kernel_rfl, Tryd.underlying87, by kernel_rfl, by kernel_rfl, by kernel_rfl, ?_, by kernel_rfl, by kernel_rfl, ?_⟩⟩
  · simp [SV.wf, nilSlice]
  · exact ⟨_, _, _, rfl⟩
theorem ty88 : ∃ i d, TOk Tryd.prog 88 ⟨1, 8, .fn, .val .nilFunc⟩ i d := by
  refine ⟨Tryd.t88, _, ⟨by kernel_rfl, Tryd.underlying88, by kernel_rfl, by kernel_rfl, by kernel_rfl, ?_, by kernel_rfl, by kernel_rfl, ?_⟩⟩
  · simp [SV.wf, nilSlice]
  · exact ⟨_, _, _, rfl⟩
theorem ty89 : ∃ i d, TOk Tryd.prog 89 ⟨1, 8, .fn, .val .nilFunc⟩ i d := by
  refine ⟨Tryd.t89, _, ⟨by kernel_rfl, Tryd.underlying89, by kernel_rfl, by kernel_rfl, by kernel_rfl, ?_, by kernel_rfl, by kernel_rfl, ?_⟩⟩
  · simp [SV.wf, nilSlice]
  · exact ⟨_, _, _, rfl⟩
theorem ty90 : ∃ i d, TOk Tryd.prog 90 ⟨1, 8, .fn, .val .nilFunc⟩ i d := by
  refine ⟨Tryd.t90, _, ⟨by kernel_rfl, Tryd.underlying90, by kernel_rfl, by kernel_rfl, by kernel_rfl, ?_, by kernel_rfl, by kernel_rfl, ?_⟩⟩
  · simp [SV.wf, nilSlice]
  · exact ⟨_, _, _, rfl⟩
theorem ty91 : ∃ i d, TOk Tryd.prog 91 ⟨1, 8, .ptr 96, .val (.pointer none)⟩ i d := by
  refine ⟨Tryd.t91, _, ⟨by kernel_rfl, Tryd.underlying91, by kernel_rfl, by kernel_rfl, by kernel_rfl, ?_, by kernel_rfl, by kernel_rfl, ?_⟩⟩
  · simp [SV.wf, nilSlice]
  · rfl
theorem ty92 : ∃ i d, TOk Tryd.prog 92 ⟨1, 8, .fn, .val .nilFunc⟩ i d := by
  refine ⟨Tryd.t92, _, ⟨by kernel_rfl, Tryd.underlying92, by kernel_rfl, by kernel_rfl, by kernel_rfl, ?_, by kernel_rfl, by kernel_rfl, ?_⟩⟩
  · simp [SV.wf, nilSlice]
  · exact ⟨_, _, _, rfl⟩
theorem ty93 : ∃ i d, TOk Tryd.prog 93 ⟨255, 255, .arr 255 5, .arr 255 1 fun _ => .int .u8 0⟩ i d := by
  refine ⟨Tryd.t93, _, ⟨by kernel_rfl, Tryd.underlying93, by kernel_rfl, by kernel_rfl, by kernel_rfl, ?_, by kernel_rfl, by kernel_rfl, ?_⟩⟩
  · simp [SV.wf, SV.wfA, SV.nt, nilSlice, SV.sz, SV.sz.szL]
  · rfl
theorem ty94 : ∃ i d, TOk Tryd.prog 94 ⟨256, 2048, .arr 256 3, .arr 256 1 fun _ => .int .i64 0⟩ i d := by
  refine ⟨Tryd.t94, _, ⟨by kernel_rfl, Tryd.underlying94, by kernel_rfl, by kernel_rfl, by kernel_rfl, ?_, by kernel_rfl, by kernel_rfl, ?_⟩⟩
  · simp [SV.wf, SV.wfA, SV.nt, nilSlice, SV.sz, SV.sz.szL]
  · rfl
theorem ty95 : ∃ i d, TOk Tryd.prog 95 ⟨511, 2304, .struct [(0, 93), (255, 94)], .agg [.arr 255 1 fun _ => .int .u8 0, .arr 256 1 fun _ => .int .i64 0]⟩ i d := by
  refine ⟨Tryd.t95, _, ⟨by kernel_rfl, Tryd.underlying95, by kernel_rfl, by kernel_rfl, by kernel_rfl, ?_, by kernel_rfl, by kernel_rfl, ?_⟩⟩
  · simp [SV.wf, SV.wfA, SV.nt, nilSlice, SV.sz, SV.sz.szL]
  · exact kok_struct _ _ _ rfl (by kernel_rfl) (by kernel_rfl)
theorem ty96 : ∃ i d, TOk Tryd.prog 96 ⟨511, 2304, .struct [(0, 93), (255, 94)], .agg [.arr 255 1 fun _ => .int .u8 0, .arr 256 1 fun _ => .int .i64 0]⟩ i d := by
  refine ⟨Tryd.t96, _, ⟨by kernel_rfl, Tryd.underlying96, by kernel_rfl, by kernel_rfl, by kernel_rfl, ?_, by kernel_rfl, by kernel_rfl, ?_⟩⟩
  · simp [SV.wf, SV.wfA, SV.nt, nilSlice, SV.sz, SV.sz.szL]
  · exact kok_struct _ _ _ rfl (by kernel_rfl) (by kernel_rfl)
theorem ty97 : ∃ i d, TOk Tryd.prog 97 ⟨1, 8, .fn, .val .nilFunc⟩ i d := by
  refine ⟨Tryd.t97, _, ⟨by kernel_rfl, Tryd.underlying97, by kernel_rfl, by kernel_rfl, by kernel_rfl, ?_, by kernel_rfl, by kernel_rfl, ?_⟩⟩
  · simp [SV.wf, nilSlice]
  · exact ⟨_, _, _, rfl⟩
theorem ty98 : ∃ i d, TOk Tryd.prog 98 ⟨1, 8, .fn, .val .nilFunc⟩ i d := by
  refine ⟨Tryd.t98, _, ⟨by kernel_rfl, Tryd.underlying98, by kernel_rfl, by kernel_rfl, by kernel_rfl, ?_, by kernel_rfl, by kernel_rfl, ?_⟩⟩
  · simp [SV.wf, nilSlice]
  · exact ⟨_, _, _, rfl⟩
theorem ty99 : ∃ i d, TOk Tryd.prog 99 ⟨1, 8, .int .i64, .int .i64 0⟩ i d := by
  refine ⟨Tryd.t99, _, ⟨by kernel_rfl, Tryd.underlying99, by kernel_rfl, by kernel_rfl, by kernel_rfl, ?_, by kernel_rfl, by kernel_rfl, ?_⟩⟩
  · simp [SV.wf, nilSlice]
  · rfl
theorem ty101 : ∃ i d, TOk Tryd.prog 101 ⟨1, 8, .fn, .val .nilFunc⟩ i d := by
  refine ⟨Tryd.t101, _, ⟨by kernel_rfl, Tryd.underlying101, by kernel_rfl, by kernel_rfl, by kernel_rfl, ?_, by kernel_rfl, by kernel_rfl, ?_⟩⟩
  · simp [SV.wf, nilSlice]
  · exact ⟨_, _, _, rfl⟩
theorem ty102 : ∃ i d, TOk Tryd.prog 102 ⟨1, 8, .fn, .val .nilFunc⟩ i d := by
  refine ⟨Tryd.t102, _, ⟨by kernel_rfl, Tryd.underlying102, by kernel_rfl, by kernel_rfl, by kernel_rfl, ?_, by kernel_rfl, by kernel_rfl, ?_⟩⟩
  · simp [SV.wf, nilSlice]
  · exact ⟨_, _, _, rfl⟩
theorem ty103 : ∃ i d, TOk Tryd.prog 103 ⟨1, 8, .fn, .val .nilFunc⟩ i d := by
  refine ⟨Tryd.t103, _, ⟨by kernel_rfl, Tryd.underlying103, by kernel_rfl, by kernel_rfl, by kernel_rfl, ?_, by kernel_rfl, by kernel_rfl, ?_⟩⟩
  · simp [SV.wf, nilSlice]
  · exact ⟨_, _, _, rfl⟩
theorem ty104 : ∃ i d, TOk Tryd.prog 104 ⟨1, 8, .fn, .val .nilFunc⟩ i d := by
  refine ⟨Tryd.t104, _, ⟨by kernel_rfl, Tryd.underlying104, by kernel_rfl, by kernel_rfl, by kernel_rfl, ?_, by kernel_rfl, by kernel_rfl, ?_⟩⟩
  · simp [SV.wf, nilSlice]
  · exact ⟨_, _, _, rfl⟩
theorem ty106 : ∃ i d, TOk Tryd.prog 106 ⟨1, 8, .fn, .val .nilFunc⟩ i d := by
  refine ⟨Tryd.t106, _, ⟨by kernel_rfl, Tryd.underlying106, by kernel_rfl, by kernel_rfl, by kernel_rfl, ?_, by kernel_rfl, by kernel_rfl, ?_⟩⟩
  · simp [SV.wf, nilSlice]
  · exact ⟨_, _, _, rfl⟩
theorem ty107 : ∃ i d, TOk Tryd.prog 107 ⟨1, 8, .fn, .val .nilFunc⟩ i d := by
  refine ⟨Tryd.t107, _, ⟨by kernel_rfl, Tryd.underlying107, by kernel_rfl, by kernel_rfl, by kernel_rfl, ?_, by kernel_rfl, by kernel_rfl, ?_⟩⟩
  · simp [SV.wf, nilSlice]
  · exact ⟨_, _, _, rfl⟩
theorem ty108 : ∃ i d, TOk Tryd.prog 108 ⟨1, 4, .int .u32, .int .u32 0⟩ i d := by
  refine ⟨Tryd.t108, _, ⟨by kernel_rfl, Tryd.underlying108, by kernel_rfl, by kernel_rfl, by kernel_rfl, ?_, by kernel_rfl, by kernel_rfl, ?_⟩⟩
  · simp [SV.wf, nilSlice]
  · rfl
theorem ty109 : ∃ i d, TOk Tryd.prog 109 ⟨1, 8, .fn, .val .nilFunc⟩ i d := by
  refine ⟨Tryd.t109, _, ⟨by kernel_rfl, Tryd.underlying109, by kernel_rfl, by kernel_rfl, by kernel_rfl, ?_, by kernel_rfl, by kernel_rfl, ?_⟩⟩
  · simp [SV.wf, nilSlice]
  · exact ⟨_, _, _, rfl⟩
theorem ty110 : ∃ i d, TOk Tryd.prog 110 ⟨1, 8, .int .u64, .int .u64 0⟩ i d := by
  refine ⟨Tryd.t110, _, ⟨by kernel_rfl, Tryd.underlying110, by kernel_rfl, by kernel_rfl, by kernel_rfl, ?_, by kernel_rfl, by kernel_rfl, ?_⟩⟩
  · simp [SV.wf, nilSlice]
  · rfl
theorem ty111 : ∃ i d, TOk Tryd.prog 111 ⟨0, 0, .struct [], .agg []⟩ i d := by
  refine ⟨Tryd.t111, _, ⟨by kernel_rfl, Tryd.underlying111, by kernel_rfl, by kernel_rfl, by kernel_rfl, ?_, by kernel_rfl, by kernel_rfl, ?_⟩⟩
  · simp [SV.wf, SV.wfA, SV.nt, nilSlice, SV.sz, SV.sz.szL]
  · exact kok_struct _ _ _ rfl (by kernel_rfl) (by kernel_rfl)
theorem ty112 : ∃ i d, TOk Tryd.prog 112 ⟨0, 0, .struct [], .agg []⟩ i d := by
  refine ⟨Tryd.t112, _, ⟨by kernel_rfl, Tryd.underlying112, by kernel_rfl, by kernel_rfl, by kernel_rfl, ?_, by kernel_rfl, by kernel_rfl, ?_⟩⟩
  · simp [SV.wf, SV.wfA, SV.nt, nilSlice, SV.sz, SV.sz.szL]
  · exact kok_struct _ _ _ rfl (by kernel_rfl) (by kernel_rfl)
theorem ty113 : ∃ i d, TOk Tryd.prog 113 ⟨1, 8, .fn, .val .nilFunc⟩ i d := by
  refine ⟨Tryd.t113, _, ⟨by kernel_rfl, Tryd.underlying113, by kernel_rfl, by kernel_rfl, by kernel_rfl, ?_, by kernel_rfl, by kernel_rfl, ?_⟩⟩
  · simp [SV.wf, nilSlice]
  · exact ⟨_, _, _, rfl⟩
theorem ty114 : ∃ i d, TOk Tryd.prog 114 ⟨1, 8, .fn, .val .nilFunc⟩ i d := by
  refine ⟨Tryd.t114, _, ⟨by kernel_rfl, Tryd.underlying114, by kernel_rfl, by kernel_rfl, by kernel_rfl, ?_, by kernel_rfl, by kernel_rfl, ?_⟩⟩
  · simp [SV.wf, nilSlice]
  · exact ⟨_, _, _, rfl⟩
theorem ty115 : ∃ i d, TOk Tryd.prog 115 ⟨256, 256, .arr 256 4, .arr 256 1 fun _ => .bool false⟩ i d := by
  refine ⟨Tryd.t115, _, ⟨by kernel_rfl, Tryd.underlying115, by kernel_rfl, by kernel_rfl, by kernel_rfl, ?_, by kernel_rfl, by kernel_rfl, ?_⟩⟩
  · simp [SV.wf, SV.wfA, SV.nt, nilSlice, SV.sz, SV.sz.szL]
  · rfl
theorem ty116 : ∃ i d, TOk Tryd.prog 116 ⟨256, 256, .arr 256 4, .arr 256 1 fun _ => .bool false⟩ i d := by
  refine ⟨Tryd.t116, _, ⟨by kernel_rfl, Tryd.underlying116, by kernel_rfl, by kernel_rfl, by kernel_rfl, ?_, by kernel_rfl, by kernel_rfl, ?_⟩⟩
  · simp [SV.wf, SV.wfA, SV.nt, nilSlice, SV.sz, SV.sz.szL]
  · rfl
theorem ty118 : ∃ i d, TOk Tryd.prog 118 ⟨1, 8, .fn, .val .nilFunc⟩ i d := by
  refine ⟨Tryd.t118, _, ⟨by kernel_rfl, Tryd.underlying118, by kernel_rfl, by kernel_rfl, by kernel_rfl, ?_, by kernel_rfl, by kernel_rfl, ?_⟩⟩
  · simp [SV.wf, nilSlice]
  · exact ⟨_, _, _, rfl⟩
theorem ty119 : ∃ i d, TOk Tryd.prog 119 ⟨1, 8, .fn, .val .nilFunc⟩ i d := by
  refine ⟨Tryd.t119, _, ⟨by kernel_rfl, Tryd.underlying119, by kernel_rfl, by kernel_rfl, by kernel_rfl, ?_, by kernel_rfl, by kernel_rfl, ?_⟩⟩
  · simp [SV.wf, nilSlice]
  · exact ⟨_, _, _, rfl⟩
theorem ty120 : ∃ i d, TOk Tryd.prog 120 ⟨1, 8, .ptr 116, .val (.pointer none)⟩ i d := by
  refine ⟨Tryd.t120, _, ⟨by kernel_rfl, Tryd.underlying120, by kernel_rfl, by kernel_rfl, by kernel_rfl, ?_, by kernel_rfl, by kernel_rfl, ?_⟩⟩
  · simp [SV.wf, nilSlice]
  · rfl
theorem ty121 : ∃ i d, TOk Tryd.prog 121 ⟨1, 8, .int .u64, .int .u64 0⟩ i d := by
  refine ⟨Tryd.t121, _, ⟨by kernel_rfl, Tryd.underlying121, by kernel_rfl, by kernel_rfl, by kernel_rfl, ?_, by kernel_rfl, by kernel_rfl, ?_⟩⟩
  · simp [SV.wf, nilSlice]
  · rfl
theorem ty122 : ∃ i d, TOk Tryd.prog 122 ⟨1, 8, .fn, .val .nilFunc⟩ i d := by
  refine ⟨Tryd.t122, _, ⟨by kernel_rfl, Tryd.underlying122, by kernel_rfl, by kernel_rfl, by kernel_rfl, ?_, by kernel_rfl, by kernel_rfl, ?_⟩⟩
  · simp [SV.wf, nilSlice]
  · exact ⟨_, _, _, rfl⟩
theorem ty123 : ∃ i d, TOk Tryd.prog 123 ⟨1, 8, .fn, .val .nilFunc⟩ i d := by
  refine ⟨Tryd.t123, _, ⟨by kernel_rfl, Tryd.underlying123, by kernel_rfl, by kernel_rfl, by kernel_rfl, ?_, by kernel_rfl, by kernel_rfl, ?_⟩⟩
  · simp [SV.wf, nilSlice]
  · exact ⟨_, _, _, rfl⟩
theorem ty124 : ∃ i d, TOk Tryd.prog 124 ⟨1, 8, .fn, .val .nilFunc⟩ i d := by
  refine ⟨Tryd.t124, _, ⟨by kernel_rfl, Tryd.underlying124, by kernel_rfl, by kernel_rfl, by kernel_rfl, ?_, by kernel_rfl, by kernel_rfl, ?_⟩⟩
  · simp [SV.wf, nilSlice]
  · exact ⟨_, _, _, rfl⟩
theorem ty125 : ∃ i d, TOk Tryd.prog 125 ⟨1, 8, .ptr 3, .val (.pointer none)⟩ i d := by
  refine ⟨Tryd.t125, _, ⟨by kernel_rfl, Tryd.underlying125, by kernel_rfl, by kernel_rfl, by kernel_rfl, ?_, by kernel_rfl, by kernel_rfl, ?_⟩⟩
  · simp [SV.wf, nilSlice]
  · rfl
theorem ty126 : ∃ i d, TOk Tryd.prog 126 ⟨1, 8, .fn, .val .nilFunc⟩ i d := by
  refine ⟨Tryd.t126, _, ⟨by kernel_rfl, Tryd.underlying126, by kernel_rfl, by kernel_rfl, by kernel_rfl, ?_, by kernel_rfl, by kernel_rfl, ?_⟩⟩
  · simp [SV.wf, nilSlice]
  · exact ⟨_, _, _, rfl⟩
theorem ty127 : ∃ i d, TOk Tryd.prog 127 ⟨1, 8, .fn, .val .nilFunc⟩ i d := by
  refine ⟨Tryd.t127, _, ⟨by kernel_rfl, Tryd.underlying127, by kernel_rfl, by kernel_rfl, by kernel_rfl, ?_, by kernel_rfl, by kernel_rfl, ?_⟩⟩
  · simp [SV.wf, nilSlice]
  · exact ⟨_, _, _, rfl⟩
theorem ty128 : ∃ i d, TOk Tryd.prog 128 ⟨1, 8, .fn, .val .nilFunc⟩ i d := by
  refine ⟨Tryd.t128, _, ⟨by kernel_rfl, Tryd.underlying128, by kernel_rfl, by kernel_rfl, by kernel_rfl, ?_, by kernel_rfl, by kernel_rfl, ?_⟩⟩
  · simp [SV.wf, nilSlice]
  · exact ⟨_, _, _, rfl⟩
theorem ty129 : ∃ i d, TOk Tryd.prog 129 ⟨1, 8, .fn, .val .nilFunc⟩ i d := by
  refine ⟨Tryd.t129, _, ⟨by kernel_rfl, Tryd.underlying129, by kernel_rfl, by kernel_rfl, by kernel_rfl, ?_, by kernel_rfl, by kernel_rfl, ?_⟩⟩
  · simp [SV.wf, nilSlice]
  · exact ⟨_, _, _, rfl⟩
theorem ty130 : ∃ i d, TOk Tryd.prog 130 ⟨1, 8, .fn, .val .nilFunc⟩ i d := by
  refine ⟨Tryd.t130, _, ⟨by kernel_rfl, Tryd.underlying130, by kernel_rfl, by kernel_rfl, by kernel_rfl, ?_, by kernel_rfl, by kernel_rfl, ?_⟩⟩
  · simp [SV.wf, nilSlice]
  · exact ⟨_, _, _, rfl⟩
theorem ty132 : ∃ i d, TOk Tryd.prog 132 ⟨1, 8, .fn, .val .nilFunc⟩ i d := by
  refine ⟨Tryd.t132, _, ⟨by kernel_rfl, Tryd.underlying132, by kernel_rfl, by kernel_rfl, by kernel_rfl, ?_, by kernel_rfl, by kernel_rfl, ?_⟩⟩
  · simp [SV.wf, nilSlice]
  · exact ⟨_, _, _, rfl⟩
theorem ty133 : ∃ i d, TOk Tryd.prog 133 ⟨1, 8, .fn, .val .nilFunc⟩ i d := by
  refine ⟨Tryd.t133, _, ⟨by kernel_rfl, Tryd.underlying133, by kernel_rfl, by kernel_rfl, by kernel_rfl, ?_, by kernel_rfl, by kernel_rfl, ?_⟩⟩
  · simp [SV.wf, nilSlice]
  · exact ⟨_, _, _, rfl⟩
theorem ty134 : ∃ i d, TOk Tryd.prog 134 ⟨1, 8, .ptr 121, .val (.pointer none)⟩ i d := by
  refine ⟨Tryd.t134, _, ⟨by kernel_rfl, Tryd.underlying134, by kernel_rfl, by kernel_rfl, by kernel_rfl, ?_, by kernel_rfl, by kernel_rfl, ?_⟩⟩
  · simp [SV.wf, nilSlice]
  · rfl
theorem ty136 : ∃ i d, TOk Tryd.prog 136 ⟨1, 8, .fn, .val .nilFunc⟩ i d := by
  refine ⟨Tryd.t136, _, ⟨by kernel_rfl, Tryd.underlying136, by kernel_rfl, by kernel_rfl, by kernel_rfl, ?_, by kernel_rfl, by kernel_rfl, ?_⟩⟩
  · simp [SV.wf, nilSlice]
  · exact ⟨_, _, _, rfl⟩
theorem ty137 : ∃ i d, TOk Tryd.prog 137 ⟨1, 8, .ptr 82, .val (.pointer none)⟩ i d := by
  refine ⟨Tryd.t137, _, ⟨by kernel_rfl, Tryd.underlying137, by kernel_rfl, by kernel_rfl, by kernel_rfl, ?_, by kernel_rfl, by kernel_rfl, ?_⟩⟩
  · simp [SV.wf, nilSlice]
  · rfl
theorem ty138 : ∃ i d, TOk Tryd.prog 138 ⟨1, 8, .fn, .val .nilFunc⟩ i d := by
  refine ⟨Tryd.t138, _, ⟨by kernel_rfl, Tryd.underlying138, by kernel_rfl, by kernel_rfl, by kernel_rfl, ?_, by kernel_rfl, by kernel_rfl, ?_⟩⟩
  · simp [SV.wf, nilSlice]
  · exact ⟨_, _, _, rfl⟩
theorem ty139 : ∃ i d, TOk Tryd.prog 139 ⟨1, 8, .fn, .val .nilFunc⟩ i d := by
  refine ⟨Tryd.t139, _, ⟨by kernel_rfl, Tryd.underlying139, by kernel_rfl, by kernel_rfl, by kernel_rfl, ?_, by kernel_rfl, by kernel_rfl, ?_⟩⟩
  · simp [SV.wf, nilSlice]
  · exact ⟨_, _, _, rfl⟩
theorem ty140 : ∃ i d, TOk Tryd.prog 140 ⟨1, 8, .fn, .val .nilFunc⟩ i d := by
  refine ⟨Tryd.t140, _, ⟨by kernel_rfl, Tryd.underlying140, by kernel_rfl, by kernel_rfl, by kernel_rfl, ?_, by kernel_rfl, by kernel_rfl, ?_⟩⟩
  · simp [SV.wf, nilSlice]
  · exact ⟨_, _, _, rfl⟩
theorem ty141 : ∃ i d, TOk Tryd.prog 141 ⟨1, 8, .fn, .val .nilFunc⟩ i d := by
  refine ⟨Tryd.t141, _, ⟨by kernel_rfl, Tryd.underlying141, by kernel_rfl, by kernel_rfl, by kernel_rfl, ?_, by kernel_rfl, by kernel_rfl, ?_⟩⟩
  · simp [SV.wf, nilSlice]
  · exact ⟨_, _, _, rfl⟩
theorem ty142 : ∃ i d, TOk Tryd.prog 142 ⟨1, 8, .fn, .val .nilFunc⟩ i d := by
  refine ⟨Tryd.t142, _, ⟨by kernel_rfl, Tryd.underlying142, by kernel_rfl, by kernel_rfl, by kernel_rfl, ?_, by kernel_rfl, by kernel_rfl, ?_⟩⟩
  · simp [SV.wf, nilSlice]
  · exact ⟨_, _, _, rfl⟩
theorem ty143 : ∃ i d, TOk Tryd.prog 143 ⟨256, 256, .arr 256 5, .arr 256 1 fun _ => .int .u8 0⟩ i d := by
  refine ⟨Tryd.t143, _, ⟨by kernel_rfl, Tryd.underlying143, by kernel_rfl, by kernel_rfl, by kernel_rfl, ?_, by kernel_rfl, by kernel_rfl, ?_⟩⟩
  · simp [SV.wf, SV.wfA, SV.nt, nilSlice, SV.sz, SV.sz.szL]
  · rfl
theorem ty144 : ∃ i d, TOk Tryd.prog 144 ⟨2, 2, .struct [(0, 5), (1, 5)], .agg [.int .u8 0, .int .u8 0]⟩ i d := by
  refine ⟨Tryd.t144, _, ⟨by kernel_rfl, Tryd.underlying144, by kernel_rfl, by kernel_rfl, by kernel_rfl, ?_, by kernel_rfl, by kernel_rfl, ?_⟩⟩
  · simp [SV.wf, SV.wfA, SV.nt, nilSlice, SV.sz, SV.sz.szL]
  · exact kok_struct _ _ _ rfl (by kernel_rfl) (by kernel_rfl)
theorem ty145 : ∃ i d, TOk Tryd.prog 145 ⟨2, 2, .struct [(0, 5), (1, 5)], .agg [.int .u8 0, .int .u8 0]⟩ i d := by
  refine ⟨Tryd.t145, _, ⟨by kernel_rfl, Tryd.underlying145, by kernel_rfl, by kernel_rfl, by kernel_rfl, ?_, by kernel_rfl, by kernel_rfl, ?_⟩⟩
  · simp [SV.wf, SV.wfA, SV.nt, nilSlice, SV.sz, SV.sz.szL]
  · exact kok_struct _ _ _ rfl (by kernel_rfl) (by kernel_rfl)
theorem ty146 : ∃ i d, TOk Tryd.prog 146 ⟨32, 32, .arr 16 145, .arr 16 2 fun _ => .agg [.int .u8 0, .int .u8 0]⟩ i d := by
  refine ⟨Tryd.t146, _, ⟨by kernel_rfl, Tryd.underlying146, by kernel_rfl, by kernel_rfl, by kernel_rfl, ?_, by kernel_rfl, by kernel_rfl, ?_⟩⟩
  · simp [SV.wf, SV.wfA, SV.nt, nilSlice, SV.sz, SV.sz.szL]
  · rfl
theorem ty147 : ∃ i d, TOk Tryd.prog 147 ⟨4, 40, .struct [(0, 17), (1, 17), (2, 17), (3, 9)], .agg [.val (.pointer none), .val (.pointer none), .val (.pointer none), .str []]⟩ i d := by
  refine ⟨Tryd.t147, _, ⟨by kernel_rfl, Tryd.underlying147, by kernel_rfl, by kernel_rfl, by kernel_rfl, ?_, by kernel_rfl, by kernel_rfl, ?_⟩⟩
  · simp [SV.wf, SV.wfA, SV.nt, nilSlice, SV.sz, SV.sz.szL]
  · exact kok_struct _ _ _ rfl (by kernel_rfl) (by kernel_rfl)
theorem ty148 : ∃ i d, TOk Tryd.prog 148 ⟨4, 40, .struct [(0, 17), (1, 17), (2, 17), (3, 9)], .agg [.val (.pointer none), .val (.pointer none), .val (.pointer none), .str []]⟩ i d := by
  refine ⟨Tryd.t148, _, ⟨by kernel_rfl, Tryd.underlying148, by kernel_rfl, by kernel_rfl, by kernel_rfl, ?_, by kernel_rfl, by kernel_rfl, ?_⟩⟩
  · simp [SV.wf, SV.wfA, SV.nt, nilSlice, SV.sz, SV.sz.szL]
  · exact kok_struct _ _ _ rfl (by kernel_rfl) (by kernel_rfl)
theorem ty149 : ∃ i d, TOk Tryd.prog 149 ⟨0, 0, .arr 0 16, .arr 0 1 fun _ => .val (.pointer none)⟩ i d := by
  refine ⟨Tryd.t149, _, ⟨by kernel_rfl, Tryd.underlying149, by kernel_rfl, by kernel_rfl, by kernel_rfl, ?_, by kernel_rfl, by kernel_rfl, ?_⟩⟩
  · simp [SV.wf, SV.wfA, SV.nt, nilSlice, SV.sz, SV.sz.szL]
  · rfl
theorem ty152 : ∃ i d, TOk Tryd.prog 152 ⟨1, 8, .fn, .val .nilFunc⟩ i d := by
  refine ⟨Tryd.t152, _, ⟨by kernel_rfl, Tryd.underlying152, by kernel_rfl, by kernel_rfl, by kernel_rfl, ?_, by kernel_rfl, by kernel_rfl, ?_⟩⟩
  · simp [SV.wf, nilSlice]
  · exact ⟨_, _, _, rfl⟩
theorem ty153 : ∃ i d, TOk Tryd.prog 153 ⟨1, 1, .int .u8, .int .u8 0⟩ i d := by
  refine ⟨Tryd.t153, _, ⟨by kernel_rfl, Tryd.underlying153, by kernel_rfl, by kernel_rfl, by kernel_rfl, ?_, by kernel_rfl, by kernel_rfl, ?_⟩⟩
  · simp [SV.wf, nilSlice]
  · rfl
theorem ty154 : ∃ i d, TOk Tryd.prog 154 ⟨1, 1, .int .u8, .int .u8 0⟩ i d := by
  refine ⟨Tryd.t154, _, ⟨by kernel_rfl, Tryd.underlying154, by kernel_rfl, by kernel_rfl, by kernel_rfl, ?_, by kernel_rfl, by kernel_rfl, ?_⟩⟩
  · simp [SV.wf, nilSlice]
  · rfl
theorem ty155 : ∃ i d, TOk Tryd.prog 155 ⟨1, 8, .fn, .val .nilFunc⟩ i d := by
  refine ⟨Tryd.t155, _, ⟨by kernel_rfl, Tryd.underlying155, by kernel_rfl, by kernel_rfl, by kernel_rfl, ?_, by kernel_rfl, by kernel_rfl, ?_⟩⟩
  · simp [SV.wf, nilSlice]
  · exact ⟨_, _, _, rfl⟩
theorem ty156 : ∃ i d, TOk Tryd.prog 156 ⟨1, 8, .ptr 5, .val (.pointer none)⟩ i d := by
  refine ⟨Tryd.t156, _, ⟨by kernel_rfl, Tryd.underlying156, by kernel_rfl, by kernel_rfl, by kernel_rfl, ?_, by kernel_rfl, by kernel_rfl, ?_⟩⟩
  · simp [SV.wf, nilSlice]
  · rfl
theorem ty157 : ∃ i d, TOk Tryd.prog 157 ⟨1, 4, .int .i32, .int .i32 0⟩ i d := by
  refine ⟨Tryd.t157, _, ⟨by kernel_rfl, Tryd.underlying157, by kernel_rfl, by kernel_rfl, by kernel_rfl, ?_, by kernel_rfl, by kernel_rfl, ?_⟩⟩
  · simp [SV.wf, nilSlice]
  · rfl
theorem ty158 : ∃ i d, TOk Tryd.prog 158 ⟨1, 4, .int .i32, .int .i32 0⟩ i d := by
  refine ⟨Tryd.t158, _, ⟨by kernel_rfl, Tryd.underlying158, by kernel_rfl, by kernel_rfl, by kernel_rfl, ?_, by kernel_rfl, by kernel_rfl, ?_⟩⟩
  · simp [SV.wf, nilSlice]
  · rfl
theorem ty159 : ∃ i d, TOk Tryd.prog 159 ⟨11, 48, .struct [(0, 12), (1, 12), (2, 108), (3, 153), (4, 5), (5, 5), (6, 154), (7, 155), (8, 156), (9, 157), (10, 158)], .agg [.int .u64 0, .int .u64 0, .int .u32 0, .int .u8 0, .int .u8 0, .int .u8 0, .int .u8 0, .val .nilFunc, .val (.pointer none), .int .i32 0, .int .i32 0]⟩ i d := by
  refine ⟨Tryd.t159, _, ⟨by kernel_rfl, Tryd.underlying159, by kernel_rfl, by kernel_rfl, by kernel_rfl, ?_, by kernel_rfl, by kernel_rfl, ?_⟩⟩
  · simp [SV.wf, SV.wfA, SV.nt, nilSlice, SV.sz, SV.sz.szL]
  · exact kok_struct _ _ _ rfl (by kernel_rfl) (by kernel_rfl)
theorem ty160 : ∃ i d, TOk Tryd.prog 160 ⟨11, 48, .struct [(0, 12), (1, 12), (2, 108), (3, 153), (4, 5), (5, 5), (6, 154), (7, 155), (8, 156), (9, 157), (10, 158)], .agg [.int .u64 0, .int .u64 0, .int .u32 0, .int .u8 0, .int .u8 0, .int .u8 0, .int .u8 0, .val .nilFunc, .val (.pointer none), .int .i32 0, .int .i32 0]⟩ i d := by
  refine ⟨Tryd.t160, _, ⟨by kernel_rfl, Tryd.underlying160, by kernel_rfl, by kernel_rfl, by kernel_rfl, ?_, by kernel_rfl, by kernel_rfl, ?_⟩⟩
  · simp [SV.wf, SV.wfA, SV.nt, nilSlice, SV.sz, SV.sz.szL]
  · exact kok_struct _ _ _ rfl (by kernel_rfl) (by kernel_rfl)
theorem tenv_ok : ∀ t ti, tenv t = some ti → ∃ i d, TOk Tryd.prog t ti i d := by
  intro t ti h
  unfold tenv at h
  split at h
  · injection h with h; subst h; exact ty1
  · injection h with h; subst h; exact ty2
  · injection h with h; subst h; exact ty3
  · injection h with h; subst h; exact ty4
  · injection h with h; subst h; exact ty5
  · injection h with h; subst h; exact ty6
  · injection h with h; subst h; exact ty7
  · injection h with h; subst h; exact ty8
  · injection h with h; subst h; exact ty9
  · injection h with h; subst h; exact ty10
  · injection h with h; subst h; exact ty11
  · injection h with h; subst h; exact ty12
  · injection h with h; subst h; exact ty13
  · injection h with h; subst h; exact ty14
  · injection h with h; subst h; exact ty15
  · injection h with h; subst h; exact ty16
  · injection h with h; subst h; exact ty17
  · injection h with h; subst h; exact ty18
  · injection h with h; subst h; exact ty19
  · injection h with h; subst h; exact ty20
  · injection h with h; subst h; exact ty21
  · injection h with h; subst h; exact ty22
  · injection h with h; subst h; exact ty23
  · injection h with h; subst h; exact ty25
  · injection h with h; subst h; exact ty26
  · injection h with h; subst h; exact ty27
  · injection h with h; subst h; exact ty28
  · injection h with h; subst h; exact ty29
  · injection h with h; subst h; exact ty31
  · injection h with h; subst h; exact ty33
  · injection h with h; subst h; exact ty34
  · injection h with h; subst h; exact ty35
  · injection h with h; subst h; exact ty36
  · injection h with h; subst h; exact ty37
  · injection h with h; subst h; exact ty38
  · injection h with h; subst h; exact ty39
  · injection h with h; subst h; exact ty41
  · injection h with h; subst h; exact ty42
  · injection h with h; subst h; exact ty43
  · injection h with h; subst h; exact ty45
  · injection h with h; subst h; exact ty46
  · injection h with h; subst h; exact ty47
  · injection h with h; subst h; exact ty48
  · injection h with h; subst h; exact ty49
  · injection h with h; subst h; exact ty50
  · injection h with h; subst h; exact ty51
  · injection h with h; subst h; exact ty52
  · injection h with h; subst h; exact ty53
  · injection h with h; subst h; exact ty54
  · injection h with h; subst h; exact ty55
  · injection h with h; subst h; exact ty56
  · injection h with h; subst h; exact ty57
  · injection h with h; subst h; exact ty59
  · injection h with h; subst h; exact ty61
  · injection h with h; subst h; exact ty62
  · injection h with h; subst h; exact ty63
  · injection h with h; subst h; exact ty64
  · injection h with h; subst h; exact ty65
  · injection h with h; subst h; exact ty67
  · injection h with h; subst h; exact ty68
  · injection h with h; subst h; exact ty69
  · injection h with h; subst h; exact ty70
  · injection h with h; subst h; exact ty71
  · injection h with h; subst h; exact ty72
  · injection h with h; subst h; exact ty73
  · injection h with h; subst h; exact ty74
  · injection h with h; subst h; exact ty75
  · injection h with h; subst h; exact ty76
  · injection h with h; subst h; exact ty77
  · injection h with h; subst h; exact ty78
  · injection h with h; subst h; exact ty79
  · injection h with h; subst h; exact ty80
  · injection h with h; subst h; exact ty81
  · injection h with h; subst h; exact ty82
  · injection h with h; subst h; exact ty84
  · injection h with h; subst h; exact ty85
  · injection h with h; subst h; exact ty86
  · injection h with h; subst h; exact ty87
  · injection h with h; subst h; exact ty88
  · injection h with h; subst h; exact ty89
  · injection h with h; subst h; exact ty90
  · injection h with h; subst h; exact ty91
  · injection h with h; subst h; exact ty92
  · injection h with h; subst h; exact ty93
  · injection h with h; subst h; exact ty94
  · injection h with h; subst h; exact ty95
  · injection h with h; subst h; exact ty96
  · injection h with h; subst h; exact ty97
  · injection h with h; subst h; exact ty98
  · injection h with h; subst h; exact ty99
  · injection h with h; subst h; exact ty101
  · injection h with h; subst h; exact ty102
  · injection h with h; subst h; exact ty103
  · injection h with h; subst h; exact ty104
  · injection h with h; subst h; exact ty106
  · injection h with h; subst h; exact ty107
  · injection h with h; subst h; exact ty108
  · injection h with h; subst h; exact ty109
  · injection h with h; subst h; exact ty110
  · injection h with h; subst h; exact ty111
  · injection h with h; subst h; exact ty112
  · injection h with h; subst h; exact ty113
  · injection h with h; subst h; exact ty114
  · injection h with h; subst h; exact ty115
  · injection h with h; subst h; exact ty116
  · injection h with h; subst h; exact ty118
  · injection h with h; subst h; exact ty119
  · injection h with h; subst h; exact ty120
  · injection h with h; subst h; exact ty121
  · injection h with h; subst h; exact ty122
  · injection h with h; subst h; exact ty123
  · injection h with h; subst h; exact ty124
  · injection h with h; subst h; exact ty125
  · injection h with h; subst h; exact ty126
  · injection h with h; subst h; exact ty127
  · injection h with h; subst h; exact ty128
  · injection h with h; subst h; exact ty129
  · injection h with h; subst h; exact ty130
  · injection h with h; subst h; exact ty132
  · injection h with h; subst h; exact ty133
  · injection h with h; subst h; exact ty134
  · injection h with h; subst h; exact ty136
  · injection h with h; subst h; exact ty137
  · injection h with h; subst h; exact ty138
  · injection h with h; subst h; exact ty139
  · injection h with h; subst h; exact ty140
  · injection h with h; subst h; exact ty141
  · injection h with h; subst h; exact ty142
  · injection h with h; subst h; exact ty143
  · injection h with h; subst h; exact ty144
  · injection h with h; subst h; exact ty145
  · injection h with h; subst h; exact ty146
  · injection h with h; subst h; exact ty147
  · injection h with h; subst h; exact ty148
  · injection h with h; subst h; exact ty149
  · injection h with h; subst h; exact ty152
  · injection h with h; subst h; exact ty153
  · injection h with h; subst h; exact ty154
  · injection h with h; subst h; exact ty155
  · injection h with h; subst h; exact ty156
  · injection h with h; subst h; exact ty157
  · injection h with h; subst h; exact ty158
  · injection h with h; subst h; exact ty159
  · injection h with h; subst h; exact ty160
  · cases h
end Eng
