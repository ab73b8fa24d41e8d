/-
  OWN WORK, written by a program of ours (gen_ty.py): the types of this seat, as the engine wants them.
-/
import Derived.Test.YtjhcndahjhkahaaGreatEngK
namespace Eng
open Go Go.Proofs
set_option linter.unusedVariables false
set_option linter.unusedSimpArgs false
set_option maxRecDepth 100000

def tenv : TypeId → Option TI
  | 1 => some ⟨1, 8, .fn, .val .nilFunc⟩
  | 2 => some ⟨1, 8, .int .i64, .int .i64 0⟩
  | 3 => some ⟨1, 8, .int .i64, .int .i64 0⟩
  | 4 => some ⟨1, 1, .bool, .bool false⟩
  | 5 => some ⟨1, 1, .int .u8, .int .u8 0⟩
  | 6 => some ⟨1, 1, .int .u8, .int .u8 0⟩
  | 7 => some ⟨4, 24, .struct [(0, 2), (1, 3), (2, 4), (3, 6)], .agg [.int .i64 0, .int .i64 0, .bool false, .int .u8 0]⟩
  | 8 => some ⟨4, 24, .struct [(0, 2), (1, 3), (2, 4), (3, 6)], .agg [.int .i64 0, .int .i64 0, .bool false, .int .u8 0]⟩
  | 9 => some ⟨1, 16, .str, .str []⟩
  | 10 => some ⟨1, 16, .str, .str []⟩
  | 11 => some ⟨1, 16, .str, .str []⟩
  | 12 => some ⟨1, 8, .int .u64, .int .u64 0⟩
  | 13 => some ⟨2, 24, .struct [(0, 9), (1, 12)], .agg [.str [], .int .u64 0]⟩
  | 14 => some ⟨2, 24, .struct [(0, 9), (1, 12)], .agg [.str [], .int .u64 0]⟩
  | 15 => some ⟨1, 8, .ptr 163, .val (.pointer none)⟩
  | 16 => some ⟨1, 8, .ptr 166, .val (.pointer none)⟩
  | 17 => some ⟨1, 8, .ptr 174, .val (.pointer none)⟩
  | 18 => some ⟨1, 8, .struct [(0, 17)], .agg [.val (.pointer none)]⟩
  | 19 => some ⟨1, 8, .struct [(0, 17)], .agg [.val (.pointer none)]⟩
  | 20 => some ⟨1, 16, .iface, .val .nilIface⟩
  | 21 => some ⟨1, 4, .int .i32, .int .i32 0⟩
  | 22 => some ⟨1, 24, .slice 31, nilSlice⟩
  | 23 => some ⟨1, 8, .fn, .val .nilFunc⟩
  | 24 => some ⟨1, 8, .ptr 64, .val (.pointer none)⟩
  | 25 => some ⟨1, 8, .int .i64, .int .i64 0⟩
  | 27 => some ⟨1, 8, .fn, .val .nilFunc⟩
  | 28 => some ⟨1, 24, .slice 4, nilSlice⟩
  | 30 => some ⟨3, 24, .struct [(0, 3), (1, 3), (2, 3)], .agg [.int .i64 0, .int .i64 0, .int .i64 0]⟩
  | 31 => some ⟨3, 24, .struct [(0, 3), (1, 3), (2, 3)], .agg [.int .i64 0, .int .i64 0, .int .i64 0]⟩
  | 32 => some ⟨1, 8, .fn, .val .nilFunc⟩
  | 33 => some ⟨1, 4, .int .u32, .int .u32 0⟩
  | 34 => some ⟨1, 24, .slice 46, nilSlice⟩
  | 35 => some ⟨11, 120, .struct [(0, 3), (1, 3), (2, 9), (3, 3), (4, 33), (5, 3), (6, 9), (7, 3), (8, 3), (9, 4), (10, 34)], .agg [.int .i64 0, .int .i64 0, .str [], .int .i64 0, .int .u32 0, .int .i64 0, .str [], .int .i64 0, .int .i64 0, .bool false, nilSlice]⟩
  | 36 => some ⟨11, 120, .struct [(0, 3), (1, 3), (2, 9), (3, 3), (4, 33), (5, 3), (6, 9), (7, 3), (8, 3), (9, 4), (10, 34)], .agg [.int .i64 0, .int .i64 0, .str [], .int .i64 0, .int .u32 0, .int .i64 0, .str [], .int .i64 0, .int .i64 0, .bool false, nilSlice]⟩
  | 38 => some ⟨1, 8, .fn, .val .nilFunc⟩
  | 39 => some ⟨1, 24, .slice 43, nilSlice⟩
  | 41 => some ⟨1, 8, .fn, .val .nilFunc⟩
  | 42 => some ⟨4, 48, .struct [(0, 3), (1, 3), (2, 9), (3, 9)], .agg [.int .i64 0, .int .i64 0, .str [], .str []]⟩
  | 43 => some ⟨4, 48, .struct [(0, 3), (1, 3), (2, 9), (3, 9)], .agg [.int .i64 0, .int .i64 0, .str [], .str []]⟩
  | 44 => some ⟨1, 8, .fn, .val .nilFunc⟩
  | 45 => some ⟨2, 16, .struct [(0, 3), (1, 3)], .agg [.int .i64 0, .int .i64 0]⟩
  | 46 => some ⟨2, 16, .struct [(0, 3), (1, 3)], .agg [.int .i64 0, .int .i64 0]⟩
  | 47 => some ⟨1, 8, .fn, .val .nilFunc⟩
  | 48 => some ⟨1, 24, .slice 53, nilSlice⟩
  | 49 => some ⟨1, 8, .fn, .val .nilFunc⟩
  | 50 => some ⟨1, 8, .fn, .val .nilFunc⟩
  | 51 => some ⟨1, 24, .slice 3, nilSlice⟩
  | 52 => some ⟨14, 152, .struct [(0, 3), (1, 3), (2, 9), (3, 36)], .agg [.int .i64 0, .int .i64 0, .str [], .agg [.int .i64 0, .int .i64 0, .str [], .int .i64 0, .int .u32 0, .int .i64 0, .str [], .int .i64 0, .int .i64 0, .bool false, nilSlice]]⟩
  | 53 => some ⟨14, 152, .struct [(0, 3), (1, 3), (2, 9), (3, 36)], .agg [.int .i64 0, .int .i64 0, .str [], .agg [.int .i64 0, .int .i64 0, .str [], .int .i64 0, .int .u32 0, .int .i64 0, .str [], .int .i64 0, .int .i64 0, .bool false, nilSlice]]⟩
  | 54 => some ⟨1, 8, .fn, .val .nilFunc⟩
  | 55 => some ⟨1, 8, .fn, .val .nilFunc⟩
  | 56 => some ⟨1, 8, .fn, .val .nilFunc⟩
  | 57 => some ⟨1, 8, .fn, .val .nilFunc⟩
  | 58 => some ⟨1, 8, .fn, .val .nilFunc⟩
  | 59 => some ⟨1, 8, .fn, .val .nilFunc⟩
  | 60 => some ⟨1, 8, .fn, .val .nilFunc⟩
  | 61 => some ⟨1, 8, .fn, .val .nilFunc⟩
  | 62 => some ⟨1, 24, .slice 76, nilSlice⟩
  | 63 => some ⟨5, 72, .struct [(0, 2), (1, 3), (2, 4), (3, 62), (4, 62)], .agg [.int .i64 0, .int .i64 0, .bool false, nilSlice, nilSlice]⟩
  | 64 => some ⟨5, 72, .struct [(0, 2), (1, 3), (2, 4), (3, 62), (4, 62)], .agg [.int .i64 0, .int .i64 0, .bool false, nilSlice, nilSlice]⟩
  | 65 => some ⟨2, 16, .arr 2 24, .arr 2 1 fun _ => .val (.pointer none)⟩
  | 66 => some ⟨1, 8, .fn, .val .nilFunc⟩
  | 67 => some ⟨1, 8, .fn, .val .nilFunc⟩
  | 68 => some ⟨1, 8, .fn, .val .nilFunc⟩
  | 69 => some ⟨1, 8, .fn, .val .nilFunc⟩
  | 71 => some ⟨1, 8, .fn, .val .nilFunc⟩
  | 72 => some ⟨1, 8, .fn, .val .nilFunc⟩
  | 73 => some ⟨1, 2, .int .u16, .int .u16 0⟩
  | 74 => some ⟨1, 8, .fn, .val .nilFunc⟩
  | 75 => some ⟨1, 8, .fn, .val .nilFunc⟩
  | 76 => some ⟨1, 8, .ptr 82, .val (.pointer none)⟩
  | 78 => some ⟨1, 8, .fn, .val .nilFunc⟩
  | 79 => some ⟨1, 24, .slice 5, nilSlice⟩
  | 80 => some ⟨1, 8, .map 3 3, .val (.map none)⟩
  | 81 => some ⟨15, 136, .struct [(0, 3), (1, 3), (2, 4), (3, 4), (4, 9), (5, 3), (6, 3), (7, 33), (8, 79), (9, 80), (10, 3), (11, 3), (12, 3), (13, 2), (14, 3)], .agg [.int .i64 0, .int .i64 0, .bool false, .bool false, .str [], .int .i64 0, .int .i64 0, .int .u32 0, nilSlice, .val (.map none), .int .i64 0, .int .i64 0, .int .i64 0, .int .i64 0, .int .i64 0]⟩
  | 82 => some ⟨15, 136, .struct [(0, 3), (1, 3), (2, 4), (3, 4), (4, 9), (5, 3), (6, 3), (7, 33), (8, 79), (9, 80), (10, 3), (11, 3), (12, 3), (13, 2), (14, 3)], .agg [.int .i64 0, .int .i64 0, .bool false, .bool false, .str [], .int .i64 0, .int .i64 0, .int .u32 0, nilSlice, .val (.map none), .int .i64 0, .int .i64 0, .int .i64 0, .int .i64 0, .int .i64 0]⟩
  | 83 => some ⟨1, 8, .fn, .val .nilFunc⟩
  | 84 => some ⟨1, 8, .fn, .val .nilFunc⟩
  | 85 => some ⟨1, 8, .fn, .val .nilFunc⟩
  | 86 => some ⟨1, 8, .fn, .val .nilFunc⟩
  | 87 => some ⟨1, 8, .fn, .val .nilFunc⟩
  | 88 => some ⟨1, 8, .fn, .val .nilFunc⟩
  | 89 => some ⟨1, 8, .fn, .val .nilFunc⟩
  | 90 => some ⟨4, 32, .arr 4 3, .arr 4 1 fun _ => .int .i64 0⟩
  | 91 => some ⟨1, 8, .fn, .val .nilFunc⟩
  | 92 => some ⟨1, 8, .fn, .val .nilFunc⟩
  | 93 => some ⟨1, 8, .fn, .val .nilFunc⟩
  | 94 => some ⟨1, 8, .fn, .val .nilFunc⟩
  | 95 => some ⟨1, 8, .fn, .val .nilFunc⟩
  | 96 => some ⟨1, 8, .fn, .val .nilFunc⟩
  | 97 => some ⟨1, 8, .fn, .val .nilFunc⟩
  | 98 => some ⟨1, 8, .fn, .val .nilFunc⟩
  | 99 => some ⟨0, 0, .struct [], .agg []⟩
  | 100 => some ⟨0, 0, .struct [], .agg []⟩
  | 102 => some ⟨1, 8, .ptr 104, .val (.pointer none)⟩
  | 103 => some ⟨1, 16, .struct [(0, 9)], .agg [.str []]⟩
  | 104 => some ⟨1, 16, .struct [(0, 9)], .agg [.str []]⟩
  | 105 => some ⟨1, 8, .fn, .val .nilFunc⟩
  | 106 => some ⟨1, 8, .fn, .val .nilFunc⟩
  | 107 => some ⟨1, 8, .fn, .val .nilFunc⟩
  | 108 => some ⟨1, 8, .fn, .val .nilFunc⟩
  | 109 => some ⟨4, 32, .struct [(0, 106), (1, 94), (2, 107), (3, 108)], .agg [.val .nilFunc, .val .nilFunc, .val .nilFunc, .val .nilFunc]⟩
  | 110 => some ⟨4, 32, .struct [(0, 106), (1, 94), (2, 107), (3, 108)], .agg [.val .nilFunc, .val .nilFunc, .val .nilFunc, .val .nilFunc]⟩
  | 111 => some ⟨28, 224, .arr 7 110, .arr 7 4 fun _ => .agg [.val .nilFunc, .val .nilFunc, .val .nilFunc, .val .nilFunc]⟩
  | 112 => some ⟨1, 8, .fn, .val .nilFunc⟩
  | 113 => some ⟨1, 8, .ptr 36, .val (.pointer none)⟩
  | 114 => some ⟨1, 8, .fn, .val .nilFunc⟩
  | 115 => some ⟨1, 8, .fn, .val .nilFunc⟩
  | 116 => some ⟨1, 8, .fn, .val .nilFunc⟩
  | 117 => some ⟨1, 8, .fn, .val .nilFunc⟩
  | 118 => some ⟨1, 8, .fn, .val .nilFunc⟩
  | 119 => some ⟨1, 24, .slice 62, nilSlice⟩
  | 120 => some ⟨1, 8, .fn, .val .nilFunc⟩
  | 121 => some ⟨1, 8, .fn, .val .nilFunc⟩
  | 122 => some ⟨1, 8, .fn, .val .nilFunc⟩
  | 123 => some ⟨1, 8, .fn, .val .nilFunc⟩
  | 124 => some ⟨1, 8, .int .u64, .int .u64 0⟩
  | 125 => some ⟨1, 8, .fn, .val .nilFunc⟩
  | 126 => some ⟨1, 8, .fn, .val .nilFunc⟩
  | 127 => some ⟨1, 8, .fn, .val .nilFunc⟩
  | 128 => some ⟨1, 8, .fn, .val .nilFunc⟩
  | 129 => some ⟨1, 8, .fn, .val .nilFunc⟩
  | 130 => some ⟨1, 8, .fn, .val .nilFunc⟩
  | 131 => some ⟨1, 8, .fn, .val .nilFunc⟩
  | 132 => some ⟨1, 8, .int .i64, .int .i64 0⟩
  | 134 => some ⟨1, 8, .fn, .val .nilFunc⟩
  | 135 => some ⟨1, 8, .fn, .val .nilFunc⟩
  | 136 => some ⟨1, 8, .fn, .val .nilFunc⟩
  | 137 => some ⟨1, 8, .fn, .val .nilFunc⟩
  | 139 => some ⟨1, 8, .fn, .val .nilFunc⟩
  | 140 => some ⟨1, 8, .fn, .val .nilFunc⟩
  | 141 => some ⟨1, 8, .fn, .val .nilFunc⟩
  | 142 => some ⟨1, 8, .int .u64, .int .u64 0⟩
  | 143 => some ⟨1, 8, .fn, .val .nilFunc⟩
  | 144 => some ⟨1, 24, .slice 79, nilSlice⟩
  | 145 => some ⟨1, 8, .fn, .val .nilFunc⟩
  | 146 => some ⟨1, 8, .fn, .val .nilFunc⟩
  | 147 => some ⟨1, 8, .int .u64, .int .u64 0⟩
  | 148 => some ⟨1, 8, .fn, .val .nilFunc⟩
  | 149 => some ⟨1, 8, .fn, .val .nilFunc⟩
  | 150 => some ⟨1, 8, .fn, .val .nilFunc⟩
  | 151 => some ⟨1, 8, .ptr 3, .val (.pointer none)⟩
  | 152 => some ⟨1, 8, .fn, .val .nilFunc⟩
  | 153 => some ⟨1, 8, .fn, .val .nilFunc⟩
  | 154 => some ⟨256, 512, .arr 256 73, .arr 256 1 fun _ => .int .u16 0⟩
  | 155 => some ⟨1, 8, .fn, .val .nilFunc⟩
  | 156 => some ⟨256, 1024, .arr 256 33, .arr 256 1 fun _ => .int .u32 0⟩
  | 157 => some ⟨1, 8, .fn, .val .nilFunc⟩
  | 158 => some ⟨1, 8, .ptr 147, .val (.pointer none)⟩
  | 160 => some ⟨1, 8, .fn, .val .nilFunc⟩
  | 161 => some ⟨1, 8, .ptr 5, .val (.pointer none)⟩
  | 162 => some ⟨4, 40, .struct [(0, 17), (1, 17), (2, 17), (3, 9)], .agg [.val (.pointer none), .val (.pointer none), .val (.pointer none), .str []]⟩
  | 163 => some ⟨4, 40, .struct [(0, 17), (1, 17), (2, 17), (3, 9)], .agg [.val (.pointer none), .val (.pointer none), .val (.pointer none), .str []]⟩
  | 164 => some ⟨0, 0, .arr 0 16, .arr 0 1 fun _ => .val (.pointer none)⟩
  | 167 => some ⟨1, 8, .fn, .val .nilFunc⟩
  | 168 => some ⟨1, 1, .int .u8, .int .u8 0⟩
  | 169 => some ⟨1, 1, .int .u8, .int .u8 0⟩
  | 170 => some ⟨1, 8, .fn, .val .nilFunc⟩
  | 171 => some ⟨1, 4, .int .i32, .int .i32 0⟩
  | 172 => some ⟨1, 4, .int .i32, .int .i32 0⟩
  | 173 => some ⟨11, 48, .struct [(0, 12), (1, 12), (2, 33), (3, 168), (4, 5), (5, 5), (6, 169), (7, 170), (8, 161), (9, 171), (10, 172)], .agg [.int .u64 0, .int .u64 0, .int .u32 0, .int .u8 0, .int .u8 0, .int .u8 0, .int .u8 0, .val .nilFunc, .val (.pointer none), .int .i32 0, .int .i32 0]⟩
  | 174 => some ⟨11, 48, .struct [(0, 12), (1, 12), (2, 33), (3, 168), (4, 5), (5, 5), (6, 169), (7, 170), (8, 161), (9, 171), (10, 172)], .agg [.int .u64 0, .int .u64 0, .int .u32 0, .int .u8 0, .int .u8 0, .int .u8 0, .int .u8 0, .val .nilFunc, .val (.pointer none), .int .i32 0, .int .i32 0]⟩
  | _ => none
theorem ty1 : ∃ i d, TOk Tryz.prog 1 ⟨1, 8, .fn, .val .nilFunc⟩ i d := by
  refine ⟨Tryz.t1, _, ⟨by kernel_rfl, Tryz.underlying1, by kernel_rfl, by kernel_rfl, by kernel_rfl, ?_, by kernel_rfl, by kernel_rfl, ?_⟩⟩
  · simp [SV.wf, nilSlice]
  · exact ⟨_, _, _, rfl⟩
theorem ty2 : ∃ i d, TOk Tryz.prog 2 ⟨1, 8, .int .i64, .int .i64 0⟩ i d := by
  refine ⟨Tryz.t2, _, ⟨by kernel_rfl, Tryz.underlying2, by kernel_rfl, by kernel_rfl, by kernel_rfl, ?_, by kernel_rfl, by kernel_rfl, ?_⟩⟩
  · simp [SV.wf, nilSlice]
  · rfl
theorem ty3 : ∃ i d, TOk Tryz.prog 3 ⟨1, 8, .int .i64, .int .i64 0⟩ i d := by
  refine ⟨Tryz.t3, _, ⟨by kernel_rfl, Tryz.underlying3, by kernel_rfl, by kernel_rfl, by kernel_rfl, ?_, by kernel_rfl, by kernel_rfl, ?_⟩⟩
  · simp [SV.wf, nilSlice]
  · rfl
theorem ty4 : ∃ i d, TOk Tryz.prog 4 ⟨1, 1, .bool, .bool false⟩ i d := by
  refine ⟨Tryz.t4, _, ⟨by kernel_rfl, Tryz.underlying4, by kernel_rfl, by kernel_rfl, by kernel_rfl, ?_, by kernel_rfl, by kernel_rfl, ?_⟩⟩
  · simp [SV.wf, nilSlice]
  · rfl
theorem ty5 : ∃ i d, TOk Tryz.prog 5 ⟨1, 1, .int .u8, .int .u8 0⟩ i d := by
  refine ⟨Tryz.t5, _, ⟨by kernel_rfl, Tryz.underlying5, by kernel_rfl, by kernel_rfl, by kernel_rfl, ?_, by kernel_rfl, by kernel_rfl, ?_⟩⟩
  · simp [SV.wf, nilSlice]
  · rfl
theorem ty6 : ∃ i d, TOk Tryz.prog 6 ⟨1, 1, .int .u8, .int .u8 0⟩ i d := by
  refine ⟨Tryz.t6, _, ⟨by kernel_rfl, Tryz.underlying6, by kernel_rfl, by kernel_rfl, by kernel_rfl, ?_, by kernel_rfl, by kernel_rfl, ?_⟩⟩
  · simp [SV.wf, nilSlice]
  · rfl
theorem ty7 : ∃ i d, TOk Tryz.prog 7 ⟨4, 24, .struct [(0, 2), (1, 3), (2, 4), (3, 6)], .agg [.int .i64 0, .int .i64 0, .bool false, .int .u8 0]⟩ i d := by
  refine ⟨Tryz.t7, _, ⟨by kernel_rfl, Tryz.underlying7, by kernel_rfl, by kernel_rfl, by kernel_rfl, ?_, by kernel_rfl, by kernel_rfl, ?_⟩⟩
  · simp [SV.wf, SV.wfA, SV.nt, nilSlice, SV.sz, SV.sz.szL]
  · exact kok_struct _ _ _ rfl (by kernel_rfl) (by kernel_rfl)
theorem ty8 : ∃ i d, TOk Tryz.prog 8 ⟨4, 24, .struct [(0, 2), (1, 3), (2, 4), (3, 6)], .agg [.int .i64 0, .int .i64 0, .bool false, .int .u8 0]⟩ i d := by
  refine ⟨Tryz.t8, _, ⟨by kernel_rfl, Tryz.underlying8, by kernel_rfl, by kernel_rfl, by kernel_rfl, ?_, by kernel_rfl, by kernel_rfl, ?_⟩⟩
  · simp [SV.wf, SV.wfA, SV.nt, nilSlice, SV.sz, SV.sz.szL]
  · exact kok_struct _ _ _ rfl (by kernel_rfl) (by kernel_rfl)
theorem ty9 : ∃ i d, TOk Tryz.prog 9 ⟨1, 16, .str, .str []⟩ i d := by
  refine ⟨Tryz.t9, _, ⟨by kernel_rfl, Tryz.underlying9, by kernel_rfl, by kernel_rfl, by kernel_rfl, ?_, by kernel_rfl, by kernel_rfl, ?_⟩⟩
  · simp [SV.wf, nilSlice]
  · rfl
theorem ty10 : ∃ i d, TOk Tryz.prog 10 ⟨1, 16, .str, .str []⟩ i d := by
  refine ⟨Tryz.t10, _, ⟨by kernel_rfl, Tryz.underlying10, by kernel_rfl, by kernel_rfl, by kernel_rfl, ?_, by kernel_rfl, by kernel_rfl, ?_⟩⟩
  · simp [SV.wf, nilSlice]
  · rfl
theorem ty11 : ∃ i d, TOk Tryz.prog 11 ⟨1, 16, .str, .str []⟩ i d := by
  refine ⟨Tryz.t11, _, ⟨by kernel_rfl, Tryz.underlying11, by kernel_rfl, by kernel_rfl, by kernel_rfl, ?_, by kernel_rfl, by kernel_rfl, ?_⟩⟩
  · simp [SV.wf, nilSlice]
  · rfl
theorem ty12 : ∃ i d, TOk Tryz.prog 12 ⟨1, 8, .int .u64, .int .u64 0⟩ i d := by
  refine ⟨Tryz.t12, _, ⟨by kernel_rfl, Tryz.underlying12, by kernel_rfl, by kernel_rfl, by kernel_rfl, ?_, by kernel_rfl, by kernel_rfl, ?_⟩⟩
  · simp [SV.wf, nilSlice]
  · rfl
theorem ty13 : ∃ i d, TOk Tryz.prog 13 ⟨2, 24, .struct [(0, 9), (1, 12)], .agg [.str [], .int .u64 0]⟩ i d := by
  refine ⟨Tryz.t13, _, ⟨by kernel_rfl, Tryz.underlying13, by kernel_rfl, by kernel_rfl, by kernel_rfl, ?_, by kernel_rfl, by kernel_rfl, ?_⟩⟩
  · simp [SV.wf, SV.wfA, SV.nt, nilSlice, SV.sz, SV.sz.szL]
  · exact kok_struct _ _ _ rfl (by kernel_rfl) (by kernel_rfl)
theorem ty14 : ∃ i d, TOk Tryz.prog 14 ⟨2, 24, .struct [(0, 9), (1, 12)], .agg [.str [], .int .u64 0]⟩ i d := by
  refine ⟨Tryz.t14, _, ⟨by kernel_rfl, Tryz.underlying14, by kernel_rfl, by kernel_rfl, by kernel_rfl, ?_, by kernel_rfl, by kernel_rfl, ?_⟩⟩
  · simp [SV.wf, SV.wfA, SV.nt, nilSlice, SV.sz, SV.sz.szL]
  · exact kok_struct _ _ _ rfl (by kernel_rfl) (by kernel_rfl)
theorem ty15 : ∃ i d, TOk Tryz.prog 15 ⟨1, 8, .ptr 163, .val (.pointer none)⟩ i d := by
  refine ⟨Tryz.t15, _, ⟨by kernel_rfl, Tryz.underlying15, by kernel_rfl, by kernel_rfl, by kernel_rfl, ?_, by kernel_rfl, by kernel_rfl, ?_⟩⟩
  · simp [SV.wf, nilSlice]
  · rfl
theorem ty16 : ∃ i d, TOk Tryz.prog 16 ⟨1, 8, .ptr 166, .val (.pointer none)⟩ i d := by
  refine ⟨Tryz.t16, _, ⟨by kernel_rfl, Tryz.underlying16, by kernel_rfl, by kernel_rfl, by kernel_rfl, ?_, by kernel_rfl, by kernel_rfl, ?_⟩⟩
  · simp [SV.wf, nilSlice]
  · rfl
theorem ty17 : ∃ i d, TOk Tryz.prog 17 ⟨1, 8, .ptr 174, .val (.pointer none)⟩ i d := by
  refine ⟨Tryz.t17, _, ⟨by kernel_rfl, Tryz.underlying17, by kernel_rfl, by kernel_rfl, by kernel_rfl, ?_, by kernel_rfl, by kernel_rfl, ?_⟩⟩
  · simp [SV.wf, nilSlice]
  · rfl
theorem ty18 : ∃ i d, TOk Tryz.prog 18 ⟨1, 8, .struct [(0, 17)], .agg [.val (.pointer none)]⟩ i d := by
  refine ⟨Tryz.t18, _, ⟨by kernel_rfl, Tryz.underlying18, by kernel_rfl, by kernel_rfl, by kernel_rfl, ?_, by kernel_rfl, by kernel_rfl, ?_⟩⟩
  · simp [SV.wf, SV.wfA, SV.nt, nilSlice, SV.sz, SV.sz.szL]
  · exact kok_struct _ _ _ rfl (by kernel_rfl) (by kernel_rfl)
theorem ty19 : ∃ i d, TOk Tryz.prog 19 ⟨1, 8, .struct [(0, 17)], .agg [.val (.pointer none)]⟩ i d := by
  refine ⟨Tryz.t19, _, ⟨by kernel_rfl, Tryz.underlying19, by kernel_rfl, by kernel_rfl, by kernel_rfl, ?_, by kernel_rfl, by kernel_rfl, ?_⟩⟩
  · simp [SV.wf, SV.wfA, SV.nt, nilSlice, SV.sz, SV.sz.szL]
  · exact kok_struct _ _ _ rfl (by kernel_rfl) (by kernel_rfl)
theorem ty20 : ∃ i d, TOk Tryz.prog 20 ⟨1, 16, .iface, .val .nilIface⟩ i d := by
  refine ⟨Tryz.t20, _, ⟨by kernel_rfl, Tryz.underlying20, by kernel_rfl, by kernel_rfl, by kernel_rfl, ?_, by kernel_rfl, by kernel_rfl, ?_⟩⟩
  · simp [SV.wf, nilSlice]
  · exact ⟨_, rfl⟩
theorem ty21 : ∃ i d, TOk Tryz.prog 21 ⟨1, 4, .int .i32, .int .i32 0⟩ i d := by
  refine ⟨Tryz.t21, _, ⟨by kernel_rfl, Tryz.underlying21, by kernel_rfl, by kernel_rfl, by kernel_rfl, ?_, by kernel_rfl, by kernel_rfl, ?_⟩⟩
  · simp [SV.wf, nilSlice]
  · rfl
theorem ty22 : ∃ i d, TOk Tryz.prog 22 ⟨1, 24, .slice 31, nilSlice⟩ i d := by
  refine ⟨Tryz.t22, _, ⟨by kernel_rfl, Tryz.underlying22, by kernel_rfl, by kernel_rfl, by kernel_rfl, ?_, by kernel_rfl, by kernel_rfl, ?_⟩⟩
  · simp [SV.wf, nilSlice]
  · rfl
theorem ty23 : ∃ i d, TOk Tryz.prog 23 ⟨1, 8, .fn, .val .nilFunc⟩ i d := by
  refine ⟨Tryz.t23, _, ⟨by kernel_rfl, Tryz.underlying23, by kernel_rfl, by kernel_rfl, by kernel_rfl, ?_, by kernel_rfl, by kernel_rfl, ?_⟩⟩
  · simp [SV.wf, nilSlice]
  · exact ⟨_, _, _, rfl⟩
theorem ty24 : ∃ i d, TOk Tryz.prog 24 ⟨1, 8, .ptr 64, .val (.pointer none)⟩ i d := by
  refine ⟨Tryz.t24, _, ⟨by kernel_rfl, Tryz.underlying24, by kernel_rfl, by kernel_rfl, by kernel_rfl, ?_, by kernel_rfl, by kernel_rfl, ?_⟩⟩
  · simp [SV.wf, nilSlice]
  · rfl
theorem ty25 : ∃ i d, TOk Tryz.prog 25 ⟨1, 8, .int .i64, .int .i64 0⟩ i d := by
  refine ⟨Tryz.t25, _, ⟨by kernel_rfl, Tryz.underlying25, by kernel_rfl, by kernel_rfl, by kernel_rfl, ?_, by kernel_rfl, by kernel_rfl, ?_⟩⟩
  · simp [SV.wf, nilSlice]
  · rfl
theorem ty27 : ∃ i d, TOk Tryz.prog 27 ⟨1, 8, .fn, .val .nilFunc⟩ i d := by
  refine ⟨Tryz.t27, _, ⟨by kernel_rfl, Tryz.underlying27, by kernel_rfl, by kernel_rfl, by kernel_rfl, ?_, by kernel_rfl, by kernel_rfl, ?_⟩⟩
  · simp [SV.wf, nilSlice]
  · exact ⟨_, _, _, rfl⟩
theorem ty28 : ∃ i d, TOk Tryz.prog 28 ⟨1, 24, .slice 4, nilSlice⟩ i d := by
  refine ⟨Tryz.t28, _, ⟨by kernel_rfl, Tryz.underlying28, by kernel_rfl, by kernel_rfl, by kernel_rfl, ?_, by kernel_rfl, by kernel_rfl, ?_⟩⟩
  · simp [SV.wf, nilSlice]
  · rfl
theorem ty30 : ∃ i d, TOk Tryz.prog 30 ⟨3, 24, .struct [(0, 3), (1, 3), (2, 3)], .agg [.int .i64 0, .int .i64 0, .int .i64 0]⟩ i d := by
  refine ⟨Tryz.t30, _, ⟨by kernel_rfl, Tryz.underlying30, by kernel_rfl, by kernel_rfl, by kernel_rfl, ?_, by kernel_rfl, by kernel_rfl, ?_⟩⟩
  · simp [SV.wf, SV.wfA, SV.nt, nilSlice, SV.sz, SV.sz.szL]
  · exact kok_struct _ _ _ rfl (by kernel_rfl) (by kernel_rfl)
theorem ty31 : ∃ i d, TOk Tryz.prog 31 ⟨3, 24, .struct [(0, 3), (1, 3), (2, 3)], .agg [.int .i64 0, .int .i64 0, .int .i64 0]⟩ i d := by
  refine ⟨Tryz.t31, _, ⟨by kernel_rfl, Tryz.underlying31, by kernel_rfl, by kernel_rfl, by kernel_rfl, ?_, by kernel_rfl, by kernel_rfl, ?_⟩⟩
  · simp [SV.wf, SV.wfA, SV.nt, nilSlice, SV.sz, SV.sz.szL]
  · exact kok_struct _ _ _ rfl (by kernel_rfl) (by kernel_rfl)
theorem ty32 : ∃ i d, TOk Tryz.prog 32 ⟨1, 8, .fn, .val .nilFunc⟩ i d := by
  refine ⟨Tryz.t32, _, ⟨by kernel_rfl, Tryz.underlying32, by kernel_rfl, by kernel_rfl, by kernel_rfl, ?_, by kernel_rfl, by kernel_rfl, ?_⟩⟩
  · simp [SV.wf, nilSlice]
  · exact ⟨_, _, _, rfl⟩
theorem ty33 : ∃ i d, TOk Tryz.prog 33 ⟨1, 4, .int .u32, .int .u32 0⟩ i d := by
  refine ⟨Tryz.t33, _, ⟨by kernel_rfl, Tryz.underlying33, by kernel_rfl, by kernel_rfl, by kernel_rfl, ?_, by kernel_rfl, by kernel_rfl, ?_⟩⟩
  · simp [SV.wf, nilSlice]
  · rfl
theorem ty34 : ∃ i d, TOk Tryz.prog 34 ⟨1, 24, .slice 46, nilSlice⟩ i d := by
  refine ⟨Tryz.t34, _, ⟨by kernel_rfl, Tryz.underlying34, by kernel_rfl, by kernel_rfl, by kernel_rfl, ?_, by kernel_rfl, by kernel_rfl, ?_⟩⟩
  · simp [SV.wf, nilSlice]
  · rfl
theorem ty35 : ∃ i d, TOk Tryz.prog 35 ⟨11, 120, .struct [(0, 3), (1, 3), (2, 9), (3, 3), (4, 33), (5, 3), (6, 9), (7, 3), (8, 3), (9, 4), (10, 34)], .agg [.int .i64 0, .int .i64 0, .str [], .int .i64 0, .int .u32 0, .int .i64 0, .str [], .int .i64 0, .int .i64 0, .bool false, nilSlice]⟩ i d := by
  refine ⟨Tryz.t35, _, ⟨by kernel_rfl, Tryz.underlying35, by kernel_rfl, by kernel_rfl, by kernel_rfl, ?_, by kernel_rfl, by kernel_rfl, ?_⟩⟩
  · simp [SV.wf, SV.wfA, SV.nt, nilSlice, SV.sz, SV.sz.szL]
  · exact kok_struct _ _ _ rfl (by kernel_rfl) (by kernel_rfl)
theorem ty36 : ∃ i d, TOk Tryz.prog 36 ⟨11, 120, .struct [(0, 3), (1, 3), (2, 9), (3, 3), (4, 33), (5, 3), (6, 9), (7, 3), (8, 3), (9, 4), (10, 34)], .agg [.int .i64 0, .int .i64 0, .str [], .int .i64 0, .int .u32 0, .int .i64 0, .str [], .int .i64 0, .int .i64 0, .bool false, nilSlice]⟩ i d := by
  refine ⟨Tryz.t36, _, ⟨by kernel_rfl, Tryz.underlying36, by kernel_rfl, by kernel_rfl, by kernel_rfl, ?_, by kernel_rfl, by kernel_rfl, ?_⟩⟩
  · simp [SV.wf, SV.wfA, SV.nt, nilSlice, SV.sz, SV.sz.szL]
  · exact kok_struct _ _ _ rfl (by kernel_rfl) (by kernel_rfl)
theorem ty38 : ∃ i d, TOk Tryz.prog 38 ⟨1, 8, .fn, .val .nilFunc⟩ i d := by
  refine ⟨Tryz.t38, _, ⟨by kernel_rfl, Tryz.underlying38, by kernel_rfl, by kernel_rfl, by kernel_rfl, ?_, by kernel_rfl, by kernel_rfl, ?_⟩⟩
  · simp [SV.wf, nilSlice]
  · exact ⟨_, _, _, rfl⟩
theorem ty39 : ∃ i d, TOk Tryz.prog 39 ⟨1, 24, .slice 43, nilSlice⟩ i d := by
  refine ⟨Tryz.t39, _, ⟨by kernel_rfl, Tryz.underlying39, by kernel_rfl, by kernel_rfl, by kernel_rfl, ?_, by kernel_rfl, by kernel_rfl, ?_⟩⟩
  · simp [SV.wf, nilSlice]
  · rfl
theorem ty41 : ∃ i d, TOk Tryz.prog 41 ⟨1, 8, .fn, .val .nilFunc⟩ i d := by
  refine ⟨Tryz.t41, _, ⟨by kernel_rfl, Tryz.underlying41, by kernel_rfl, by kernel_rfl, by kernel_rfl, ?_, by kernel_rfl, by kernel_rfl, ?_⟩⟩
  · simp [SV.wf, nilSlice]
  · exact ⟨_, _, _, rfl⟩
theorem ty42 : ∃ i d, TOk Tryz.prog 42 ⟨4, 48, .struct [(0, 3), (1, 3), (2, 9), (3, 9)], .agg [.int .i64 0, .int .i64 0, .str [], .str []]⟩ i d := by
  refine ⟨Tryz.t42, _, ⟨by kernel_rfl, Tryz.underlying42, by kernel_rfl, by kernel_rfl, by kernel_rfl, ?_, by kernel_rfl, by kernel_rfl, ?_⟩⟩
  · simp [SV.wf, SV.wfA, SV.nt, nilSlice, SV.sz, SV.sz.szL]
  · exact kok_struct _ _ _ rfl (by kernel_rfl) (by kernel_rfl)
theorem ty43 : ∃ i d, TOk Tryz.prog 43 ⟨4, 48, .struct [(0, 3), (1, 3), (2, 9), (3, 9)], .agg [.int .i64 0, .int .i64 0, .str [], .str []]⟩ i d := by
  refine ⟨Tryz.t43, _, ⟨by kernel_rfl, Tryz.underlying43, by kernel_rfl, by kernel_rfl, by kernel_rfl, ?_, by kernel_rfl, by kernel_rfl, ?_⟩⟩
  · simp [SV.wf, SV.wfA, SV.nt, nilSlice, SV.sz, SV.sz.szL]
  · exact kok_struct _ _ _ rfl (by kernel_rfl) (by kernel_rfl)
theorem ty44 : ∃ i d, TOk Tryz.prog 44 ⟨1, 8, .fn, .val .nilFunc⟩ i d := by
  refine ⟨Tryz.t44, _, ⟨by kernel_rfl, Tryz.underlying44, by kernel_rfl, by kernel_rfl, by kernel_rfl, ?_, by kernel_rfl, by kernel_rfl, ?_⟩⟩
  · simp [SV.wf, nilSlice]
  · exact ⟨_, _, _, rfl⟩
theorem ty45 : ∃ i d, TOk Tryz.prog 45 ⟨2, 16, .struct [(0, 3), (1, 3)], .agg [.int .i64 0, .int .i64 0]⟩ i d := by
  refine ⟨Tryz.t45, _, ⟨by kernel_rfl, Tryz.underlying45, by kernel_rfl, by kernel_rfl, by kernel_rfl, ?_, by kernel_rfl, by kernel_rfl, ?_⟩⟩
  · simp [SV.wf, SV.wfA, SV.nt, nilSlice, SV.sz, SV.sz.szL]
  · exact kok_struct _ _ _ rfl (by kernel_rfl) (by kernel_rfl)
theorem ty46 : ∃ i d, TOk Tryz.prog 46 ⟨2, 16, .struct [(0, 3), (1, 3)], .agg [.int .i64 0, .int .i64 0]⟩ i d := by
  refine ⟨Tryz.t46, _, ⟨by kernel_rfl, Tryz.underlying46, by kernel_rfl, by kernel_rfl, by kernel_rfl, ?_, by kernel_rfl, by kernel_rfl, ?_⟩⟩
  · simp [SV.wf, SV.wfA, SV.nt, nilSlice, SV.sz, SV.sz.szL]
  · exact kok_struct _ _ _ rfl (by kernel_rfl) (by kernel_rfl)
theorem ty47 : ∃ i d, TOk Tryz.prog 47 ⟨1, 8, .fn, .val .nilFunc⟩ i d := by
  refine ⟨Tryz.t47, _, ⟨by kernel_rfl, Tryz.underlying47, by kernel_rfl, by kernel_rfl, by kernel_rfl, ?_, by kernel_rfl, by kernel_rfl, ?_⟩⟩
  · simp [SV.wf, nilSlice]
  · exact ⟨_, _, _, rfl⟩
theorem ty48 : ∃ i d, TOk Tryz.prog 48 ⟨1, 24, .slice 53, nilSlice⟩ i d := by
  refine ⟨Tryz.t48, _, ⟨by kernel_rfl, Tryz.underlying48, by kernel_rfl, by kernel_rfl, by kernel_rfl, ?_, by kernel_rfl, by kernel_rfl, ?_⟩⟩
  · simp [SV.wf, nilSlice]
  · rfl
theorem ty49 : ∃ i d, TOk Tryz.prog 49 ⟨1, 8, .fn, .val .nilFunc⟩ i d := by
  refine ⟨Tryz.t49, _, ⟨by kernel_rfl, Tryz.underlying49, by kernel_rfl, by kernel_rfl, by kernel_rfl, ?_, by kernel_rfl, by kernel_rfl, ?_⟩⟩
  · simp [SV.wf, nilSlice]
  · exact ⟨_, _, _, rfl⟩
theorem ty50 : ∃ i d, TOk Tryz.prog 50 ⟨1, 8, .fn, .val .nilFunc⟩ i d := by
  refine ⟨Tryz.t50, _, ⟨by kernel_rfl, Tryz.underlying50, by kernel_rfl, by kernel_rfl, by kernel_rfl, ?_, by kernel_rfl, by kernel_rfl, ?_⟩⟩
  · simp [SV.wf, nilSlice]
  · exact ⟨_, _, _, rfl⟩
theorem ty51 : ∃ i d, TOk Tryz.prog 51 ⟨1, 24, .slice 3, nilSlice⟩ i d := by
  refine ⟨Tryz.t51, _, ⟨by kernel_rfl, Tryz.underlying51, by kernel_rfl, by kernel_rfl, by kernel_rfl, ?_, by kernel_rfl, by kernel_rfl, ?_⟩⟩
  · simp [SV.wf, nilSlice]
  · rfl
theorem ty52 : ∃ i d, TOk Tryz.prog 52 ⟨14, 152, .struct [(0, 3), (1, 3), (2, 9), (3, 36)], .agg [.int .i64 0, .int .i64 0, .str [], .agg [.int .i64 0, .int .i64 0, .str [], .int .i64 0, .int .u32 0, .int .i64 0, .str [], .int .i64 0, .int .i64 0, .bool false, nilSlice]]⟩ i d := by
  refine ⟨Tryz.t52, _, ⟨by kernel_rfl, Tryz.underlying52, by kernel_rfl, by kernel_rfl, by kernel_rfl, ?_, by kernel_rfl, by kernel_rfl, ?_⟩⟩
  · simp [SV.wf, SV.wfA, SV.nt, nilSlice, SV.sz, SV.sz.szL]
  · exact kok_struct _ _ _ rfl (by kernel_rfl) (by kernel_rfl)
theorem ty53 : ∃ i d, TOk Tryz.prog 53 ⟨14, 152, .struct [(0, 3), (1, 3), (2, 9), (3, 36)], .agg [.int .i64 0, .int .i64 0, .str [], .agg [.int .i64 0, .int .i64 0, .str [], .int .i64 0, .int .u32 0, .int .i64 0, .str [], .int .i64 0, .int .i64 0, .bool false, nilSlice]]⟩ i d := by
  refine ⟨Tryz.t53, _, ⟨by kernel_rfl, Tryz.underlying53, by kernel_rfl, by kernel_rfl, by kernel_rfl, ?_, by kernel_rfl, by kernel_rfl, ?_⟩⟩
  · simp [SV.wf, SV.wfA, SV.nt, nilSlice, SV.sz, SV.sz.szL]
  · exact kok_struct _ _ _ rfl (by kernel_rfl) (by kernel_rfl)
theorem ty54 : ∃ i d, TOk Tryz.prog 54 ⟨1, 8, .fn, .val .nilFunc⟩ i d := by
  refine ⟨Tryz.t54, _, ⟨by kernel_rfl, Tryz.underlying54, by kernel_rfl, by kernel_rfl, by kernel_rfl, ?_, by kernel_rfl, by kernel_rfl, ?_⟩⟩
  · simp [SV.wf, nilSlice]
  · exact ⟨_, _, _, rfl⟩
theorem ty55 : ∃ i d, TOk Tryz.prog 55 ⟨1, 8, .fn, .val .nilFunc⟩ i d := by
  refine ⟨Tryz.t55, _, ⟨by kernel_rfl, Tryz.underlying55, by kernel_rfl, by kernel_rfl, by kernel_rfl, ?_, by kernel_rfl, by kernel_rfl, ?_⟩⟩
  · simp [SV.wf, nilSlice]
  · exact ⟨_, _, _, rfl⟩
theorem ty56 : ∃ i d, TOk Tryz.prog 56 ⟨1, 8, .fn, .val .nilFunc⟩ i d := by
  refine ⟨Tryz.t56, _, ⟨by kernel_rfl, Tryz.underlying56, by kernel_rfl, by kernel_rfl, by kernel_rfl, ?_, by kernel_rfl, by kernel_rfl, ?_⟩⟩
  · simp [SV.wf, nilSlice]
  · exact ⟨_, _, _, rfl⟩
theorem ty57 : ∃ i d, TOk Tryz.prog 57 ⟨1, 8, .fn, .val .nilFunc⟩ i d := by
  refine ⟨Tryz.t57, _, ⟨by kernel_rfl, Tryz.underlying57, by kernel_rfl, by kernel_rfl, by kernel_rfl, ?_, by kernel_rfl, by kernel_rfl, ?_⟩⟩
  · simp [SV.wf, nilSlice]
  · exact ⟨_, _, _, rfl⟩
theorem ty58 : ∃ i d, TOk Tryz.prog 58 ⟨1, 8, .fn, .val .nilFunc⟩ i d := by
  refine ⟨Tryz.t58, _, ⟨by kernel_rfl, Tryz.underlying58, by kernel_rfl, by kernel_rfl, by kernel_rfl, ?_, by kernel_rfl, by kernel_rfl, ?_⟩⟩
  · simp [SV.wf, nilSlice]
  · exact ⟨_, _, _, rfl⟩
theorem ty59 : ∃ i d, TOk Tryz.prog 59 ⟨1, 8, .fn, .val .nilFunc⟩ i d := by
  refine ⟨Tryz.t59, _, ⟨by kernel_rfl, Tryz.underlying59, by kernel_rfl, by kernel_rfl, by kernel_rfl, ?_, by kernel_rfl, by kernel_rfl, ?_⟩⟩
  · simp [SV.wf, nilSlice]
  · exact ⟨_, _, _, rfl⟩
theorem ty60 : ∃ i d, TOk Tryz.prog 60 ⟨1, 8, .fn, .val .nilFunc⟩ i d := by
  refine ⟨Tryz.t60, _, ⟨by kernel_rfl, Tryz.underlying60, by kernel_rfl, by kernel_rfl, by kernel_rfl, ?_, by kernel_rfl, by kernel_rfl, ?_⟩⟩
  · simp [SV.wf, nilSlice]
  · exact ⟨_, _, _, rfl⟩
theorem ty61 : ∃ i d, TOk Tryz.prog 61 ⟨1, 8, .fn, .val .nilFunc⟩ i d := by
  refine ⟨Tryz.t61, _, ⟨by kernel_rfl, Tryz.underlying61, by kernel_rfl, by kernel_rfl, by kernel_rfl, ?_, by kernel_rfl, by kernel_rfl, ?_⟩⟩
  · simp [SV.wf, nilSlice]
  · exact ⟨_, _, _, rfl⟩
theorem ty62 : ∃ i d, TOk Tryz.prog 62 ⟨1, 24, .slice 76, nilSlice⟩ i d := by
  refine ⟨Tryz.t62, _, ⟨by kernel_rfl, Tryz.underlying62, by kernel_rfl, by kernel_rfl, by kernel_rfl, ?_, by kernel_rfl, by kernel_rfl, ?_⟩⟩
  · simp [SV.wf, nilSlice]
  · rfl
theorem ty63 : ∃ i d, TOk Tryz.prog 63 ⟨5, 72, .struct [(0, 2), (1, 3), (2, 4), (3, 62), (4, 62)], .agg [.int .i64 0, .int .i64 0, .bool false, nilSlice, nilSlice]⟩ i d := by
  refine ⟨Tryz.t63, _, ⟨by kernel_rfl, Tryz.underlying63, by kernel_rfl, by kernel_rfl, by kernel_rfl, ?_, by kernel_rfl, by kernel_rfl, ?_⟩⟩
  · simp [SV.wf, SV.wfA, SV.nt, nilSlice, SV.sz, SV.sz.szL]
  · exact kok_struct _ _ _ rfl (by kernel_rfl) (by kernel_rfl)
theorem ty64 : ∃ i d, TOk Tryz.prog 64 ⟨5, 72, .struct [(0, 2), (1, 3), (2, 4), (3, 62), (4, 62)], .agg [.int .i64 0, .int .i64 0, .bool false, nilSlice, nilSlice]⟩ i d := by
  refine ⟨Tryz.t64, _, ⟨by kernel_rfl, Tryz.underlying64, by kernel_rfl, by kernel_rfl, by kernel_rfl, ?_, by kernel_rfl, by kernel_rfl, ?_⟩⟩
  · simp [SV.wf, SV.wfA, SV.nt, nilSlice, SV.sz, SV.sz.szL]
  · exact kok_struct _ _ _ rfl (by kernel_rfl) (by kernel_rfl)
theorem ty65 : ∃ i d, TOk Tryz.prog 65 ⟨2, 16, .arr 2 24, .arr 2 1 fun _ => .val (.pointer none)⟩ i d := by
  refine ⟨Tryz.t65, _, ⟨by kernel_rfl, Tryz.underlying65, by kernel_rfl, by kernel_rfl, by kernel_rfl, ?_, by kernel_rfl, by kernel_rfl, ?_⟩⟩
  · simp [SV.wf, SV.wfA, SV.nt, nilSlice, SV.sz, SV.sz.szL]
  · rfl
theorem ty66 : ∃ i d, TOk Tryz.prog 66 ⟨1, 8, .fn, .val .nilFunc⟩ i d := by
  refine ⟨Tryz.t66, _, ⟨by kernel_rfl, Tryz.underlying66, by kernel_rfl, by kernel_rfl, by kernel_rfl, ?_, by kernel_rfl, by kernel_rfl, ?_⟩⟩
  · simp [SV.wf, nilSlice]
  · exact ⟨_, _, _, rfl⟩
theorem ty67 : ∃ i d, TOk Tryz.prog 67 ⟨1, 8, .fn, .val .nilFunc⟩ i d := by
  refine ⟨Tryz.t67, _, ⟨by kernel_rfl, Tryz.underlying67, by kernel_rfl, by kernel_rfl, by kernel_rfl, ?_, by kernel_rfl, by kernel_rfl, ?_⟩⟩
  · simp [SV.wf, nilSlice]
  · exact ⟨_, _, _, rfl⟩
theorem ty68 : ∃ i d, TOk Tryz.prog 68 ⟨1, 8, .fn, .val .nilFunc⟩ i d := by
  refine ⟨Tryz.t68, _, ⟨by kernel_rfl, Tryz.underlying68, by kernel_rfl, by kernel_rfl, by kernel_rfl, ?_, by kernel_rfl, by kernel_rfl, ?_⟩⟩
  · simp [SV.wf, nilSlice]
  · exact ⟨_, _, _, rfl⟩
theorem ty69 : ∃ i d, TOk Tryz.prog 69 ⟨1, 8, .fn, .val .nilFunc⟩ i d := by
  refine ⟨Tryz.t69, _, ⟨by kernel_rfl, Tryz.underlying69, by kernel_rfl, by kernel_rfl, by kernel_rfl, ?_, by kernel_rfl, by kernel_rfl, ?_⟩⟩
  · simp [SV.wf, nilSlice]
  · exact ⟨_, _, _, rfl⟩
theorem ty71 : ∃ i d, TOk Tryz.prog 71 ⟨1, 8, .fn, .val .nilFunc⟩ i d := by
  refine ⟨Tryz.t71, _, ⟨by kernel_rfl, Tryz.underlying71, by kernel_rfl, by kernel_rfl, by kernel_rfl, ?_, by kernel_rfl, by kernel_rfl, ?_⟩⟩
  · simp [SV.wf, nilSlice]
  · exact ⟨_, _, _, rfl⟩
theorem ty72 : ∃ i d, TOk Tryz.prog 72 ⟨1, 8, .fn, .val .nilFunc⟩ i d := by
  refine ⟨Tryz.t72, _, ⟨by kernel_rfl, Tryz.underlying72, by kernel_rfl, by kernel_rfl, by kernel_rfl, ?_, by kernel_rfl, by kernel_rfl, ?_⟩⟩
  · simp [SV.wf, nilSlice]
  · exact ⟨_, _, _, rfl⟩
theorem ty73 : ∃ i d, TOk Tryz.prog 73 ⟨1, 2, .int .u16, .int .u16 0⟩ i d := by
  refine ⟨Tryz.t73, _, ⟨by kernel_rfl, Tryz.underlying73, by kernel_rfl, by kernel_rfl, by kernel_rfl, ?_, by kernel_rfl, by kernel_rfl, ?_⟩⟩
  · simp [SV.wf, nilSlice]
  · rfl
theorem ty74 : ∃ i d, TOk Tryz.prog 74 ⟨1, 8, .fn, .val .nilFunc⟩ i d := by
  refine ⟨Tryz.t74, _, ⟨by kernel_rfl, Tryz.underlying74, by kernel_rfl, by kernel_rfl, by kernel_rfl, ?_, by kernel_rfl, by kernel_rfl, ?_⟩⟩
  · simp [SV.wf, nilSlice]
  · exact ⟨_, _, _, rfl⟩
theorem ty75 : ∃ i d, TOk Tryz.prog 75 ⟨1, 8, .fn, .val .nilFunc⟩ i d := by
  refine ⟨Tryz.t75, _, ⟨by kernel_rfl, Tryz.underlying75, by kernel_rfl, by kernel_rfl, by kernel_rfl, ?_, by kernel_rfl, by kernel_rfl, ?_⟩⟩
  · simp [SV.wf, nilSlice]
  · exact ⟨_, _, _, rfl⟩
theorem ty76 : ∃ i d, TOk Tryz.prog 76 ⟨1, 8, .ptr 82, .val (.pointer none)⟩ i d := by
  refine ⟨Tryz.t76, _, ⟨by kernel_rfl, Tryz.underlying76, by kernel_rfl, by kernel_rfl, by kernel_rfl, ?_, by kernel_rfl, by kernel_rfl, ?_⟩⟩
  · simp [SV.wf, nilSlice]
  · rfl
theorem ty78 : ∃ i d, TOk Tryz.prog 78 ⟨1, 8, .fn, .val .nilFunc⟩ i d := by
  refine ⟨Tryz.t78, _, ⟨by kernel_rfl, Tryz.underlying78, by kernel_rfl, by kernel_rfl, by kernel_rfl, ?_, by kernel_rfl, by kernel_rfl, ?_⟩⟩
  · simp [SV.wf, nilSlice]
  · exact ⟨_, _, _, rfl⟩
theorem ty79 : ∃ i d, TOk Tryz.prog 79 ⟨1, 24, .slice 5, nilSlice⟩ i d := by
  refine ⟨Tryz.t79, _, ⟨by kernel_rfl, Tryz.underlying79, by kernel_rfl, by kernel_rfl, by kernel_rfl, ?_, by kernel_rfl, by kernel_rfl, ?_⟩⟩
  · simp [SV.wf, nilSlice]
  · rfl
theorem ty80 : ∃ i d, TOk Tryz.prog 80 ⟨1, 8, .map 3 3, .val (.map none)⟩ i d := by
  refine ⟨Tryz.t80, _, ⟨by kernel_rfl, Tryz.underlying80, by kernel_rfl, by kernel_rfl, by kernel_rfl, ?_, by kernel_rfl, by kernel_rfl, ?_⟩⟩
  · simp [SV.wf, nilSlice]
  · rfl
theorem ty81 : ∃ i d, TOk Tryz.prog 81 ⟨15, 136, .struct [(0, 3), (1, 3), (2, 4), (3, 4), (4, 9), (5, 3), (6, 3), (7, 33), (8, 79), (9, 80), (10, 3), (11, 3), (12, 3), (13, 2), (14, 3)], .agg [.int .i64 0, .int .i64 0, .bool false, .bool false, .str [], .int .i64 0, .int .i64 0, .int .u32 0, nilSlice, .val (.map none), .int .i64 0, .int .i64 0, .int .i64 0, .int .i64 0, .int .i64 0]⟩ i d := by
  refine ⟨Tryz.t81, _, ⟨by kernel_rfl, Tryz.underlying81, by kernel_rfl, by kernel_rfl, by kernel_rfl, ?_, by kernel_rfl, by kernel_rfl, ?_⟩⟩
  · simp [SV.wf, SV.wfA, SV.nt, nilSlice, SV.sz, SV.sz.szL]
  · exact kok_struct _ _ _ rfl (by kernel_rfl) (by kernel_rfl)
theorem ty82 : ∃ i d, TOk Tryz.prog 82 ⟨15, 136, .struct [(0, 3), (1, 3), (2, 4), (3, 4), (4, 9), (5, 3), (6, 3), (7, 33), (8, 79), (9, 80), (10, 3), (11, 3), (12, 3), (13, 2), (14, 3)], .agg [.int .i64 0, .int .i64 0, .bool false, .bool false, .str [], .int .i64 0, .int .i64 0, .int .u32 0, nilSlice, .val (.map none), .int .i64 0, .int .i64 0, .int .i64 0, .int .i64 0, .int .i64 0]⟩ i d := by
  refine ⟨Tryz.t82, _, ⟨by kernel_rfl, Tryz.underlying82, by kernel_rfl, by kernel_rfl, by kernel_rfl, ?_, by kernel_rfl, by kernel_rfl, ?_⟩⟩
  · simp [SV.wf, SV.wfA, SV.nt, nilSlice, SV.sz, SV.sz.szL]
  · exact kok_struct _ _ _ rfl (by kernel_rfl) (by kernel_rfl)
theorem ty83 : ∃ i d, TOk Tryz.prog 83 ⟨1, 8, .fn, .val .nilFunc⟩ i d := by
  refine ⟨Tryz.t83, _, ⟨by kernel_rfl, Tryz.underlying83, by kernel_rfl, by kernel_rfl, by kernel_rfl, ?_, by kernel_rfl, by kernel_rfl, ?_⟩⟩
  · simp [SV.wf, nilSlice]
  · exact ⟨_, _, _, rfl⟩
theorem ty84 : ∃ i d, TOk Tryz.prog 84 ⟨1, 8, .fn, .val .nilFunc⟩ i d := by
  refine ⟨Tryz.t84, _, ⟨by kernel_rfl, Tryz.underlying84, by kernel_rfl, by kernel_rfl, by kernel_rfl, ?_, by kernel_rfl, by kernel_rfl, ?_⟩⟩
  · simp [SV.wf, nilSlice]
  · exact ⟨_, _, _, rfl⟩
theorem ty85 : ∃ i d, TOk Tryz.prog 85 ⟨1, 8, .fn, .val .nilFunc⟩ i d := by
  refine ⟨Tryz.t85, _, ⟨by kernel_rfl, Tryz.underlying85, by kernel_rfl, by kernel_rfl, by kernel_rfl, ?_, by kernel_rfl, by kernel_rfl, ?_⟩⟩
  · simp [SV.wf, nilSlice]
  · exact ⟨_, _, _, rfl⟩
theorem ty86 : ∃ i d, TOk Tryz.prog 86 ⟨1, 8, .fn, .val .nilFunc⟩ i d := by
  refine ⟨Tryz.t86, _, ⟨by kernel_rfl, Tryz.underlying86, by kernel_rfl, by kernel_rfl, by kernel_rfl, ?_, by kernel_rfl, by kernel_rfl, ?_⟩⟩
  · simp [SV.wf, nilSlice]
  · exact ⟨_, _, _, rfl⟩
theorem ty87 : ∃ i d, TOk Tryz.prog 87 ⟨1, 8, .fn, .val .nilFunc⟩ i d := by
  refine ⟨Tryz.t87, _, ⟨by kernel_rfl, Tryz.underlying87, by kernel_rfl, by kernel_rfl, by kernel_rfl, ?_, by kernel_rfl, by kernel_rfl, ?_⟩⟩
  · simp [SV.wf, nilSlice]
  · exact ⟨_, _, _, rfl⟩
theorem ty88 : ∃ i d, TOk Tryz.prog 88 ⟨1, 8, .fn, .val .nilFunc⟩ i d := by
  refine ⟨Tryz.t88, _, ⟨by kernel_rfl, Tryz.underlying88, by kernel_rfl, by kernel_rfl, by kernel_rfl, ?_, by kernel_rfl, by kernel_rfl, ?_⟩⟩
  · simp [SV.wf, nilSlice]
  · exact ⟨_, _, _, rfl⟩
theorem ty89 : ∃ i d, TOk Tryz.prog 89 ⟨1, 8, .fn, .val .nilFunc⟩ i d := by
  refine ⟨Tryz.t89, _, ⟨by kernel_rfl, Tryz.underlying89, by kernel_rfl, by kernel_rfl, by kernel_rfl, ?_, by kernel_rfl, by kernel_rfl, ?_⟩⟩
  · simp [SV.wf, nilSlice]
  · exact ⟨_, _, _, rfl⟩
theorem ty90 : ∃ i d, TOk Tryz.prog 90 ⟨4, 32, .arr 4 3, .arr 4 1 fun _ => .int .i64 0⟩ i d := by
  refine ⟨Tryz.t90, _, ⟨by kernel_rfl, Tryz.underlying90, by kernel_rfl, by kernel_rfl, by kernel_rfl, ?_, by kernel_rfl, by kernel_rfl, ?_⟩⟩
  · simp [SV.wf, SV.wfA, SV.nt, nilSlice, SV.sz, SV.sz.szL]
  · rfl
theorem ty91 : ∃ i d, TOk Tryz.prog 91 ⟨1, 8, .fn, .val .nilFunc⟩ i d := by
  refine ⟨Tryz.t91, _, ⟨by kernel_rfl, Tryz.underlying91, by kernel_rfl, by kernel_rfl, by kernel_rfl, ?_, by kernel_rfl, by kernel_rfl, ?_⟩⟩
  · simp [SV.wf, nilSlice]
  · exact ⟨_, _, _, rfl⟩
theorem ty92 : ∃ i d, TOk Tryz.prog 92 ⟨1, 8, .fn, .val .nilFunc⟩ i d := by
  refine ⟨Tryz.t92, _, ⟨by kernel_rfl, Tryz.underlying92, by kernel_rfl, by kernel_rfl, by kernel_rfl, ?_, by kernel_rfl, by kernel_rfl, ?_⟩⟩
  · simp [SV.wf, nilSlice]
  · exact ⟨_, _, _, rfl⟩
theorem ty93 : ∃ i d, TOk Tryz.prog 93 ⟨1, 8, .fn, .val .nilFunc⟩ i d := by
  refine ⟨Tryz.t93, _, ⟨by kernel_rfl, Tryz.underlying93, by kernel_rfl, by kernel_rfl, by kernel_rfl, ?_, by kernel_rfl, by kernel_rfl, ?_⟩⟩
  · simp [SV.wf, nilSlice]
  · exact ⟨_, _, _, rfl⟩
theorem ty94 : ∃ i d, TOk Tryz.prog 94 ⟨1, 8, .fn, .val .nilFunc⟩ i d := by
  refine ⟨Tryz.t94, _, ⟨by kernel_rfl, Tryz.underlying94, by kernel_rfl, by kernel_rfl, by kernel_rfl, ?_, by kernel_rfl, by kernel_rfl, ?_⟩⟩
  · simp [SV.wf, nilSlice]
  · exact ⟨_, _, _, rfl⟩
theorem ty95 : ∃ i d, TOk Tryz.prog 95 ⟨1, 8, .fn, .val .nilFunc⟩ i d := by
  refine ⟨Tryz.t95, _, ⟨by kernel_rfl, Tryz.underlying95, by kernel_rfl, by kernel_rfl, by kernel_rfl, ?_, by kernel_rfl, by kernel_rfl, ?_⟩⟩
  · simp [SV.wf, nilSlice]
  · exact ⟨_, _, _, rfl⟩
theorem ty96 : ∃ i d, TOk Tryz.prog 96 ⟨1, 8, .fn, .val .nilFunc⟩ i d := by
  refine ⟨Tryz.t96, _, ⟨by kernel_rfl, Tryz.underlying96, by kernel_rfl, by kernel_rfl, by kernel_rfl, ?_, by kernel_rfl, by kernel_rfl, ?_⟩⟩
  · simp [SV.wf, nilSlice]
  · exact ⟨_, _, _, rfl⟩
theorem ty97 : ∃ i d, TOk Tryz.prog 97 ⟨1, 8, .fn, .val .nilFunc⟩ i d := by
  refine ⟨Tryz.t97, _, ⟨by kernel_rfl, Tryz.underlying97, by kernel_rfl, by kernel_rfl, by kernel_rfl, ?_, by kernel_rfl, by kernel_rfl, ?_⟩⟩
  · simp [SV.wf, nilSlice]
  · exact ⟨_, _, _, rfl⟩
theorem ty98 : ∃ i d, TOk Tryz.prog 98 ⟨1, 8, .fn, .val .nilFunc⟩ i d := by
  refine ⟨Tryz.t98, _, ⟨by kernel_rfl, Tryz.underlying98, by kernel_rfl, by kernel_rfl, by kernel_rfl, ?_, by kernel_rfl, by kernel_rfl, ?_⟩⟩
  · simp [SV.wf, nilSlice]
  · exact ⟨_, _, _, rfl⟩
theorem ty99 : ∃ i d, TOk Tryz.prog 99 ⟨0, 0, .struct [], .agg []⟩ i d := by
  refine ⟨Tryz.t99, _, ⟨by kernel_rfl, Tryz.underlying99, by kernel_rfl, by kernel_rfl, by kernel_rfl, ?_, by kernel_rfl, by kernel_rfl, ?_⟩⟩
  · simp [SV.wf, SV.wfA, SV.nt, nilSlice, SV.sz, SV.sz.szL]
  · exact kok_struct _ _ _ rfl (by kernel_rfl) (by kernel_rfl)
theorem ty100 : ∃ i d, TOk Tryz.prog 100 ⟨0, 0, .struct [], .agg []⟩ i d := by
  refine ⟨Tryz.t100, _, ⟨by kernel_rfl, Tryz.underlying100, by kernel_rfl, by kernel_rfl, by kernel_rfl, ?_, by kernel_rfl, by kernel_rfl, ?_⟩⟩
  · simp [SV.wf, SV.wfA, SV.nt, nilSlice, SV.sz, SV.sz.szL]
  · exact kok_struct _ _ _ rfl (by kernel_rfl) (by kernel_rfl)
theorem ty102 : ∃ i d, TOk Tryz.prog 102 ⟨1, 8, .ptr 104, .val (.pointer none)⟩ i d := by
  refine ⟨Tryz.t102, _, ⟨by kernel_rfl, Tryz.underlying102, by kernel_rfl, by kernel_rfl, by kernel_rfl, ?_, by kernel_rfl, by kernel_rfl, ?_⟩⟩
  · simp [SV.wf, nilSlice]
  · rfl
theorem ty103 : ∃ i d, TOk Tryz.prog 103 ⟨1, 16, .struct [(0, 9)], .agg [.str []]⟩ i d := by
  refine ⟨Tryz.t103, _, ⟨by kernel_rfl, Tryz.underlying103, by kernel_rfl, by kernel_rfl, by kernel_rfl, ?_, by kernel_rfl, by kernel_rfl, ?_⟩⟩
  · simp [SV.wf, SV.wfA, SV.nt, nilSlice, SV.sz, SV.sz.szL]
  · exact kok_struct _ _ _ rfl (by kernel_rfl) (by kernel_rfl)
theorem ty104 : ∃ i d, TOk Tryz.prog 104 ⟨1, 16, .struct [(0, 9)], .agg [.str []]⟩ i d := by
  refine ⟨Tryz.t104, _, ⟨by kernel_rfl, Tryz.underlying104, by kernel_rfl, by kernel_rfl, by kernel_rfl, ?_, by kernel_rfl, by kernel_rfl, ?_⟩⟩
  · simp [SV.wf, SV.wfA, SV.nt, nilSlice, SV.sz, SV.sz.szL]
  · exact kok_struct _ _ _ rfl (by kernel_rfl) (by kernel_rfl)
theorem ty105 : ∃ i d, TOk Tryz.prog 105 ⟨1, 8, .fn, .val .nilFunc⟩ i d := by
  refine ⟨Tryz.t105, _, ⟨by kernel_rfl, Tryz.underlying105, by kernel_rfl, by kernel_rfl, by kernel_rfl, ?_, by kernel_rfl, by kernel_rfl, ?_⟩⟩
  · simp [SV.wf, nilSlice]
  · exact ⟨_, _, _, rfl⟩
theorem ty106 : ∃ i d, TOk Tryz.prog 106 ⟨1, 8, .fn, .val .nilFunc⟩ i d := by
  refine ⟨Tryz.t106, _, ⟨by kernel_rfl, Tryz.underlying106, by kernel_rfl, by kernel_rfl, by kernel_rfl, ?_, by kernel_rfl, by kernel_rfl, ?_⟩⟩
  · simp [SV.wf, nilSlice]
  · exact ⟨_, _, _, rfl⟩
theorem ty107 : ∃ i d, TOk Tryz.prog 107 ⟨1, 8, .fn, .val .nilFunc⟩ i d := by
  refine ⟨Tryz.t107, _, ⟨by kernel_rfl, Tryz.underlying107, by kernel_rfl, by kernel_rfl, by kernel_rfl, ?_, by kernel_rfl, by kernel_rfl, ?_⟩⟩
  · simp [SV.wf, nilSlice]
  · exact ⟨_, _, _, rfl⟩
theorem ty108 : ∃ i d, TOk Tryz.prog 108 ⟨1, 8, .fn, .val .nilFunc⟩ i d := by
  refine ⟨Tryz.t108, _, ⟨by kernel_rfl, Tryz.underlying108, by kernel_rfl, by kernel_rfl, by kernel_rfl, ?_, by kernel_rfl, by kernel_rfl, ?_⟩⟩
  · simp [SV.wf, nilSlice]
  · exact ⟨_, _, _, rfl⟩
theorem ty109 : ∃ i d, TOk Tryz.prog 109 ⟨4, 32, .struct [(0, 106), (1, 94), (2, 107), (3, 108)], .agg [.val .nilFunc, .val .nilFunc, .val .nilFunc, .val .nilFunc]⟩ i d := by
  refine ⟨Tryz.t109, _, ⟨by kernel_rfl, Tryz.underlying109, by kernel_rfl, by kernel_rfl, by kernel_rfl, ?_, by kernel_rfl, by kernel_rfl, ?_⟩⟩
  · simp [SV.wf, SV.wfA, SV.nt, nilSlice, SV.sz, SV.sz.szL]
  · exact kok_struct _ _ _ rfl (by kernel_rfl) (by kernel_rfl)
theorem ty110 : ∃ i d, TOk Tryz.prog 110 ⟨4, 32, .struct [(0, 106), (1, 94), (2, 107), (3, 108)], .agg [.val .nilFunc, .val .nilFunc, .val .nilFunc, .val .nilFunc]⟩ i d := by
  refine ⟨Tryz.t110, _, ⟨by kernel_rfl, Tryz.underlying110, by kernel_rfl, by kernel_rfl, by kernel_rfl, ?_, by kernel_rfl, by kernel_rfl, ?_⟩⟩
  · simp [SV.wf, SV.wfA, SV.nt, nilSlice, SV.sz, SV.sz.szL]
  · exact kok_struct _ _ _ rfl (by kernel_rfl) (by kernel_rfl)
theorem ty111 : ∃ i d, TOk Tryz.prog 111 ⟨28, 224, .arr 7 110, .arr 7 4 fun _ => .agg [.val .nilFunc, .val .nilFunc, .val .nilFunc, .val .nilFunc]⟩ i d := by
  refine ⟨Tryz.t111, _, ⟨by kernel_rfl, Tryz.underlying111, by kernel_rfl, by kernel_rfl, by kernel_rfl, ?_, by kernel_rfl, by kernel_rfl, ?_⟩⟩
  · simp [SV.wf, SV.wfA, SV.nt, nilSlice, SV.sz, SV.sz.szL]
  · rfl
theorem ty112 : ∃ i d, TOk Tryz.prog 112 ⟨1, 8, .fn, .val .nilFunc⟩ i d := by
  refine ⟨Tryz.t112, _, ⟨by kernel_rfl, Tryz.underlying112, by kernel_rfl, by kernel_rfl, by kernel_rfl, ?_, by kernel_rfl, by kernel_rfl, ?_⟩⟩
  · simp [SV.wf, nilSlice]
  · exact ⟨_, _, _, rfl⟩
theorem ty113 : ∃ i d, TOk Tryz.prog 113 ⟨1, 8, .ptr 36, .val (.pointer none)⟩ i d := by
  refine ⟨Tryz.t113, _, ⟨by kernel_rfl, Tryz.underlying113, by kernel_rfl, by kernel_rfl, by kernel_rfl, ?_, by kernel_rfl, by kernel_rfl, ?_⟩⟩
  · simp [SV.wf, nilSlice]
  · rfl
theorem ty114 : ∃ i d, TOk Tryz.prog 114 ⟨1, 8, .fn, .val .nilFunc⟩ i d := by
  refine ⟨Tryz.t114, _, ⟨by kernel_rfl, Tryz.underlying114, by kernel_rfl, by kernel_rfl, by kernel_rfl, ?_, by kernel_rfl, by kernel_rfl, ?_⟩⟩
  · simp [SV.wf, nilSlice]
  · exact ⟨_, _, _, rfl⟩
theorem ty115 : ∃ i d, TOk Tryz.prog 115 ⟨1, 8, .fn, .val .nilFunc⟩ i d := by
  refine ⟨Tryz.t115, _, ⟨by kernel_rfl, Tryz.underlying115, by kernel_rfl, by kernel_rfl, by kernel_rfl, ?_, by kernel_rfl, by kernel_rfl, ?_⟩⟩
  · simp [SV.wf, nilSlice]
  · exact ⟨_, _, _, rfl⟩
theorem ty116 : ∃ i d, TOk Tryz.prog 116 ⟨1, 8, .fn, .val .nilFunc⟩ i d := by
  refine ⟨Tryz.t116, _, ⟨by kernel_rfl, Tryz.underlying116, by kernel_rfl, by kernel_rfl, by kernel_rfl, ?_, by kernel_rfl, by kernel_rfl, ?_⟩⟩
  · simp [SV.wf, nilSlice]
  · exact ⟨_, _, _, rfl⟩
theorem ty117 : ∃ i d, TOk Tryz.prog 117 ⟨1, 8, .fn, .val .nilFunc⟩ i d := by
  refine ⟨Tryz.t117, _, ⟨by kernel_rfl, Tryz.underlying117, by kernel_rfl, by kernel_rfl, by kernel_rfl, ?_, by kernel_rfl, by kernel_rfl, ?_⟩⟩
  · simp [SV.wf, nilSlice]
  · exact ⟨_, _, _, rfl⟩
theorem ty118 : ∃ i d, TOk Tryz.prog 118 ⟨1, 8, .fn, .val .nilFunc⟩ i d := by
  refine ⟨Tryz.t118, _, ⟨by kernel_rfl, Tryz.underlying118, by kernel_rfl, by kernel_rfl, by kernel_rfl, ?_, by kernel_rfl, by kernel_rfl, ?_⟩⟩
  · simp [SV.wf, nilSlice]
  · exact ⟨_, _, _, rfl⟩
theorem ty119 : ∃ i d, TOk Tryz.prog 119 ⟨1, 24, .slice 62, nilSlice⟩ i d := by
  refine ⟨Tryz.t119, _, ⟨by kernel_rfl, Tryz.underlying119, by kernel_rfl, by kernel_rfl, by kernel_rfl, ?_, by kernel_rfl, by kernel_rfl, ?_⟩⟩
  · simp [SV.wf, nilSlice]
  · rfl
theorem ty120 : ∃ i d, TOk Tryz.prog 120 ⟨1, 8, .fn, .val .nilFunc⟩ i d := by
  refine ⟨Tryz.t120, _, ⟨by kernel_rfl, Tryz.underlying120, by kernel_rfl, by kernel_rfl, by kernel_rfl, ?_, by kernel_rfl, by kernel_rfl, ?_⟩⟩
  · simp [SV.wf, nilSlice]
  · exact ⟨_, _, _, rfl⟩
theorem ty121 : ∃ i d, TOk Tryz.prog 121 ⟨1, 8, .fn, .val .nilFunc⟩ i d := by
  refine ⟨Tryz.t121, _, ⟨by kernel_rfl, Tryz.underlying121, by kernel_rfl, by kernel_rfl, by kernel_rfl, ?_, by kernel_rfl, by kernel_rfl, ?_⟩⟩
  · simp [SV.wf, nilSlice]
  · exact ⟨_, _, _, rfl⟩
theorem ty122 : ∃ i d, TOk Tryz.prog 122 ⟨1, 8, .fn, .val .nilFunc⟩ i d := by
  refine ⟨Tryz.t122, _, ⟨by kernel_rfl, Tryz.underlying122, by kernel_rfl, by kernel_rfl, by kernel_rfl, ?_, by kernel_rfl, by kernel_rfl, ?_⟩⟩
  · simp [SV.wf, nilSlice]
  · exact ⟨_, _, _, rfl⟩
theorem ty123 : ∃ i d, TOk Tryz.prog 123 ⟨1, 8, .fn, .val .nilFunc⟩ i d := by
  refine ⟨Tryz.t123, _, ⟨by kernel_rfl, Tryz.underlying123, by kernel_rfl, by kernel_rfl, by kernel_rfl, ?_, by kernel_rfl, by kernel_rfl, ?_⟩⟩
  · simp [SV.wf, nilSlice]
  · exact ⟨_, _, _, rfl⟩
theorem ty124 : ∃ i d, TOk Tryz.prog 124 ⟨1, 8, .int .u64, .int .u64 0⟩ i d := by
  refine ⟨Tryz.t124, _, ⟨by kernel_rfl, Tryz.underlying124, by kernel_rfl, by kernel_rfl, by kernel_rfl, ?_, by kernel_rfl, by kernel_rfl, ?_⟩⟩
  · simp [SV.wf, nilSlice]
  · rfl
theorem ty125 : ∃ i d, TOk Tryz.prog 125 ⟨1, 8, .fn, .val .nilFunc⟩ i d := by
  refine ⟨Tryz.t125, _, ⟨by kernel_rfl, Tryz.underlying125, by kernel_rfl, by kernel_rfl, by kernel_rfl, ?_, by kernel_rfl, by kernel_rfl, ?_⟩⟩
  · simp [SV.wf, nilSlice]
  · exact ⟨_, _, _, rfl⟩
theorem ty126 : ∃ i d, TOk Tryz.prog 126 ⟨1, 8, .fn, .val .nilFunc⟩ i d := by
  refine ⟨Tryz.t126, _, ⟨by kernel_rfl, Tryz.underlying126, by kernel_rfl, by kernel_rfl, by kernel_rfl, ?_, by kernel_rfl, by kernel_rfl, ?_⟩⟩
  · simp [SV.wf, nilSlice]
  · exact ⟨_, _, _, rfl⟩
theorem ty127 : ∃ i d, TOk Tryz.prog 127 ⟨1, 8, .fn, .val .nilFunc⟩ i d := by
  refine ⟨Tryz.t127, _, ⟨by kernel_rfl, Tryz.underlying127, by kernel_rfl, by kernel_rfl, by kernel_rfl, ?_, by kernel_rfl, by kernel_rfl, ?_⟩⟩
  · simp [SV.wf, nilSlice]
  · exact ⟨_, _, _, rfl⟩
theorem ty128 : ∃ i d, TOk Tryz.prog 128 ⟨1, 8, .fn, .val .nilFunc⟩ i d := by
  refine ⟨Tryz.t128, _, ⟨by kernel_rfl, Tryz.underlying128, by kernel_rfl, by kernel_rfl, by kernel_rfl, ?_, by kernel_rfl, by kernel_rfl, ?_⟩⟩
  · simp [SV.wf, nilSlice]
  · exact ⟨_, _, _, rfl⟩
theorem ty129 : ∃ i d, TOk Tryz.prog 129 ⟨1, 8, .fn, .val .nilFunc⟩ i d := by
  refine ⟨Tryz.t129, _, ⟨by kernel_rfl, Tryz.underlying129, by kernel_rfl, by kernel_rfl, by kernel_rfl, ?_, by kernel_rfl, by kernel_rfl, ?_⟩⟩
  · simp [SV.wf, nilSlice]
  · exact ⟨_, _, _, rfl⟩
theorem ty130 : ∃ i d, TOk Tryz.prog 130 ⟨1, 8, .fn, .val .nilFunc⟩ i d := by
  refine ⟨Tryz.t130, _, ⟨by kernel_rfl, Tryz.underlying130, by kernel_rfl, by kernel_rfl, by kernel_rfl, ?_, by kernel_rfl, by kernel_rfl, ?_⟩⟩
  · simp [SV.wf, nilSlice]
  · exact ⟨_, _, _, rfl⟩
theorem ty131 : ∃ i d, TOk Tryz.prog 131 ⟨1, 8, .fn, .val .nilFunc⟩ i d := by
  refine ⟨Tryz.t131, _, ⟨by kernel_rfl, Tryz.underlying131, by kernel_rfl, by kernel_rfl, by kernel_rfl, ?_, by kernel_rfl, by kernel_rfl, ?_⟩⟩
  · simp [SV.wf, nilSlice]
  · exact ⟨_, _, _, rfl⟩
theorem ty132 : ∃ i d, TOk Tryz.prog 132 ⟨1, 8, .int .i64, .int .i64 0⟩ i d := by
  refine ⟨Tryz.t132, _, ⟨by kernel_rfl, Tryz.underlying132, by kernel_rfl, by kernel_rfl, by kernel_rfl, ?_, by kernel_rfl, by kernel_rfl, ?_⟩⟩
  · simp [SV.wf, nilSlice]
  · rfl
theorem ty134 : ∃ i d, TOk Tryz.prog 134 ⟨1, 8, .fn, .val .nilFunc⟩ i d := by
  refine ⟨Tryz.t134, _, ⟨by kernel_rfl, Tryz.underlying134, by kernel_rfl, by kernel_rfl, by kernel_rfl, ?_, by kernel_rfl, by kernel_rfl, ?_⟩⟩
  · simp [SV.wf, nilSlice]
  · exact ⟨_, _, _, rfl⟩
theorem ty135 : ∃ i d, TOk Tryz.prog 135 ⟨1, 8, .fn, .val .nilFunc⟩ i d := by
  refine ⟨Tryz.t135, _, ⟨by kernel_rfl, Tryz.underlying135, by kernel_rfl, by kernel_rfl, by kernel_rfl, ?_, by kernel_rfl, by kernel_rfl, ?_⟩⟩
  · simp [SV.wf, nilSlice]
  · exact ⟨_, _, _, rfl⟩
theorem ty136 : ∃ i d, TOk Tryz.prog 136 ⟨1, 8, .fn, .val .nilFunc⟩ i d := by
  refine ⟨Tryz.t136, _, ⟨by kernel_rfl, Tryz.underlying136, by kernel_rfl, by kernel_rfl, by kernel_rfl, ?_, by kernel_rfl, by kernel_rfl, ?_⟩⟩
  · simp [SV.wf, nilSlice]
  · exact ⟨_, _, _, rfl⟩
theorem ty137 : ∃ i d, TOk Tryz.prog 137 ⟨1, 8, .fn, .val .nilFunc⟩ i d := by
  refine ⟨Tryz.t137, _, ⟨by kernel_rfl, Tryz.underlying137, by kernel_rfl, by kernel_rfl, by kernel_rfl, ?_, by kernel_rfl, by kernel_rfl, ?_⟩⟩
  · simp [SV.wf, nilSlice]
  · exact ⟨_, _, _, rfl⟩
theorem ty139 : ∃ i d, TOk Tryz.prog 139 ⟨1, 8, .fn, .val .nilFunc⟩ i d := by
  refine ⟨Tryz.t139, _, ⟨by kernel_rfl, Tryz.underlying139, by kernel_rfl, by kernel_rfl, by kernel_rfl, ?_, by kernel_rfl, by kernel_rfl, ?_⟩⟩
  · simp [SV.wf, nilSlice]
  · exact ⟨_, _, _, rfl⟩
theorem ty140 : ∃ i d, TOk Tryz.prog 140 ⟨1, 8, .fn, .val .nilFunc⟩ i d := by
  refine ⟨Tryz.t140, _, ⟨by kernel_rfl, Tryz.underlying140, by kernel_rfl, by kernel_rfl, by kernel_rfl, ?_, by kernel_rfl, by kernel_rfl, ?_⟩⟩
  · simp [SV.wf, nilSlice]
  · exact ⟨_, _, _, rfl⟩
theorem ty141 : ∃ i d, TOk Tryz.prog 141 ⟨1, 8, .fn, .val .nilFunc⟩ i d := by
  refine ⟨Tryz.t141, _, ⟨by kernel_rfl, Tryz.underlying141, by kernel_rfl, by kernel_rfl, by kernel_rfl, ?_, by kernel_rfl, by kernel_rfl, ?_⟩⟩
  · simp [SV.wf, nilSlice]
  · exact ⟨_, _, _, rfl⟩
theorem ty142 : ∃ i d, TOk Tryz.prog 142 ⟨1, 8, .int .u64, .int .u64 0⟩ i d := by
  refine ⟨Tryz.t142, _, ⟨by kernel_rfl, Tryz.underlying142, by kernel_rfl, by kernel_rfl, by kernel_rfl, ?_, by kernel_rfl, by kernel_rfl, ?_⟩⟩
  · simp [SV.wf, nilSlice]
  · rfl
theorem ty143 : ∃ i d, TOk Tryz.prog 143 ⟨1, 8, .fn, .val .nilFunc⟩ i d := by
  refine ⟨Tryz.t143, _, ⟨by kernel_rfl, Tryz.underlying143, by kernel_rfl, by kernel_rfl, by kernel_rfl, ?_, by kernel_rfl, by kernel_rfl, ?_⟩⟩
  · simp [SV.wf, nilSlice]
  · exact ⟨_, _, _, rfl⟩
theorem ty144 : ∃ i d, TOk Tryz.prog 144 ⟨1, 24, .slice 79, nilSlice⟩ i d := by
  refine ⟨Tryz.t144, _, ⟨by kernel_rfl, Tryz.underlying144, by kernel_rfl, by kernel_rfl, by kernel_rfl, ?_, by kernel_rfl, by kernel_rfl, ?_⟩⟩
  · simp [SV.wf, nilSlice]
  · rfl
theorem ty145 : ∃ i d, TOk Tryz.prog 145 ⟨1, 8, .fn, .val .nilFunc⟩ i d := by
  refine ⟨Tryz.t145, _, ⟨by kernel_rfl, Tryz.underlying145, by kernel_rfl, by kernel_rfl, by kernel_rfl, ?_, by kernel_rfl, by kernel_rfl, ?_⟩⟩
  · simp [SV.wf, nilSlice]
  · exact ⟨_, _, _, rfl⟩
theorem ty146 : ∃ i d, TOk Tryz.prog 146 ⟨1, 8, .fn, .val .nilFunc⟩ i d := by
  refine ⟨Tryz.t146, _, ⟨by kernel_rfl, Tryz.underlying146, by kernel_rfl, by kernel_rfl, by kernel_rfl, ?_, by kernel_rfl, by kernel_rfl, ?_⟩⟩
  · simp [SV.wf, nilSlice]
  · exact ⟨_, _, _, rfl⟩
theorem ty147 : ∃ i d, TOk Tryz.prog 147 ⟨1, 8, .int .u64, .int .u64 0⟩ i d := by
  refine ⟨Tryz.t147, _, ⟨by kernel_rfl, Tryz.underlying147, by kernel_rfl, by kernel_rfl, by kernel_rfl, ?_, by kernel_rfl, by kernel_rfl, ?_⟩⟩
  · simp [SV.wf, nilSlice]
  · rfl
theorem ty148 : ∃ i d, TOk Tryz.prog 148 ⟨1, 8, .fn, .val .nilFunc⟩ i d := by
  refine ⟨Tryz.t148, _, ⟨by kernel_rfl, Tryz.underlying148, by kernel_rfl, by kernel_rfl, by kernel_rfl, ?_, by kernel_rfl, by kernel_rfl, ?_⟩⟩
  · simp [SV.wf, nilSlice]
  · exact ⟨_, _, _, rfl⟩
theorem ty149 : ∃ i d, TOk Tryz.prog 149 ⟨1, 8, .fn, .val .nilFunc⟩ i d := by
  refine ⟨Tryz.t149, _, ⟨by kernel_rfl, Tryz.underlying149, by kernel_rfl, by kernel_rfl, by kernel_rfl, ?_, by kernel_rfl, by kernel_rfl, ?_⟩⟩
  · simp [SV.wf, nilSlice]
  · exact ⟨_, _, _, rfl⟩
theorem ty150 : ∃ i d, TOk Tryz.prog 150 ⟨1, 8, .fn, .val .nilFunc⟩ i d := by
  refine ⟨Tryz.t150, _, ⟨by kernel_rfl, Tryz.underlying150, by kernel_rfl, by kernel_rfl, by kernel_rfl, ?_, by kernel_rfl, by kernel_rfl, ?_⟩⟩
  · simp [SV.wf, nilSlice]
  · exact ⟨_, _, _, rfl⟩
theorem ty151 : ∃ i d, TOk Tryz.prog 151 ⟨1, 8, .ptr 3, .val (.pointer none)⟩ i d := by
  refine ⟨Tryz.t151, _, ⟨by kernel_rfl, Tryz.underlying151, by kernel_rfl, by kernel_rfl, by kernel_rfl, ?_, by kernel_rfl, by kernel_rfl, ?_⟩⟩
  · simp [SV.wf, nilSlice]
  · rfl
theorem ty152 : ∃ i d, TOk Tryz.prog 152 ⟨1, 8, .fn, .val .nilFunc⟩ i d := by
  refine ⟨Tryz.t152, _, ⟨by kernel_rfl, Tryz.underlying152, by kernel_rfl, by kernel_rfl, by kernel_rfl, ?_, by kernel_rfl, by kernel_rfl, ?_⟩⟩
  · simp [SV.wf, nilSlice]
  · exact ⟨_, _, _, rfl⟩
theorem ty153 : ∃ i d, TOk Tryz.prog 153 ⟨1, 8, .fn, .val .nilFunc⟩ i d := by
  refine ⟨Tryz.t153, _, ⟨by kernel_rfl, Tryz.underlying153, by kernel_rfl, by kernel_rfl, by kernel_rfl, ?_, by kernel_rfl, by kernel_rfl, ?_⟩⟩
  · simp [SV.wf, nilSlice]
  · exact ⟨_, _, _, rfl⟩
theorem ty154 : ∃ i d, TOk Tryz.prog 154 ⟨256, 512, .arr 256 73, .arr 256 1 fun _ => .int .u16 0⟩ i d := by
  refine ⟨Tryz.t154, _, ⟨by kernel_rfl, Tryz.underlying154, by kernel_rfl, by kernel_rfl, by kernel_rfl, ?_, by kernel_rfl, by kernel_rfl, ?_⟩⟩
  · simp [SV.wf, SV.wfA, SV.nt, nilSlice, SV.sz, SV.sz.szL]
  · rfl
theorem ty155 : ∃ i d, TOk Tryz.prog 155 ⟨1, 8, .fn, .val .nilFunc⟩ i d := by
  refine ⟨Tryz.t155, _, ⟨by kernel_rfl, Tryz.underlying155, by kernel_rfl, by kernel_rfl, by kernel_rfl, ?_, by kernel_rfl, by kernel_rfl, ?_⟩⟩
  · simp [SV.wf, nilSlice]
  · exact ⟨_, _, _, rfl⟩
theorem ty156 : ∃ i d, TOk Tryz.prog 156 ⟨256, 1024, .arr 256 33, .arr 256 1 fun _ => .int .u32 0⟩ i d := by
  refine ⟨Tryz.t156, _, ⟨by kernel_rfl, Tryz.underlying156, by kernel_rfl, by kernel_rfl, by kernel_rfl, ?_, by kernel_rfl, by kernel_rfl, ?_⟩⟩
  · simp [SV.wf, SV.wfA, SV.nt, nilSlice, SV.sz, SV.sz.szL]
  · rfl
theorem ty157 : ∃ i d, TOk Tryz.prog 157 ⟨1, 8, .fn, .val .nilFunc⟩ i d := by
  refine ⟨Tryz.t157, _, ⟨by kernel_rfl, Tryz.underlying157, by kernel_rfl, by kernel_rfl, by kernel_rfl, ?_, by kernel_rfl, by kernel_rfl, ?_⟩⟩
  · simp [SV.wf, nilSlice]
  · exact ⟨_, _, _, rfl⟩
theorem ty158 : ∃ i d, TOk Tryz.prog 158 ⟨1, 8, .ptr 147, .val (.pointer none)⟩ i d := by
  refine ⟨Tryz.t158, _, ⟨by kernel_rfl, Tryz.underlying158, by kernel_rfl, by kernel_rfl, by kernel_rfl, ?_, by kernel_rfl, by kernel_rfl, ?_⟩⟩
  · simp [SV.wf, nilSlice]
  · rfl
theorem ty160 : ∃ i d, TOk Tryz.prog 160 ⟨1, 8, .fn, .val .nilFunc⟩ i d := by
  refine ⟨Tryz.t160, _, ⟨by kernel_rfl, Tryz.underlying160, by kernel_rfl, by kernel_rfl, by kernel_rfl, ?_, by kernel_rfl, by kernel_rfl, ?_⟩⟩
  · simp [SV.wf, nilSlice]
  · exact ⟨_, _, _, rfl⟩
theorem ty161 : ∃ i d, TOk Tryz.prog 161 ⟨1, 8, .ptr 5, .val (.pointer none)⟩ i d := by
  refine ⟨Tryz.t161, _, ⟨by kernel_rfl, Tryz.underlying161, by kernel_rfl, by kernel_rfl, by kernel_rfl, ?_, by kernel_rfl, by kernel_rfl, ?_⟩⟩
  · simp [SV.wf, nilSlice]
  · rfl
theorem ty162 : ∃ i d, TOk Tryz.prog 162 ⟨4, 40, .struct [(0, 17), (1, 17), (2, 17), (3, 9)], .agg [.val (.pointer none), .val (.pointer none), .val (.pointer none), .str []]⟩ i d := by
  refine ⟨Tryz.t162, _, ⟨by kernel_rfl, Tryz.underlying162, by kernel_rfl, by kernel_rfl, by kernel_rfl, ?_, by kernel_rfl, by kernel_rfl, ?_⟩⟩
  · simp [SV.wf, SV.wfA, SV.nt, nilSlice, SV.sz, SV.sz.szL]
  · exact kok_struct _ _ _ rfl (by kernel_rfl) (by kernel_rfl)
theorem ty163 : ∃ i d, TOk Tryz.prog 163 ⟨4, 40, .struct [(0, 17), (1, 17), (2, 17), (3, 9)], .agg [.val (.pointer none), .val (.pointer none), .val (.pointer none), .str []]⟩ i d := by
  refine ⟨Tryz.t163, _, ⟨by kernel_rfl, Tryz.underlying163, by kernel_rfl, by kernel_rfl, by kernel_rfl, ?_, by kernel_rfl, by kernel_rfl, ?_⟩⟩
  · simp [SV.wf, SV.wfA, SV.nt, nilSlice, SV.sz, SV.sz.szL]
  · exact kok_struct _ _ _ rfl (by kernel_rfl) (by kernel_rfl)
theorem ty164 : ∃ i d, TOk Tryz.prog 164 ⟨0, 0, .arr 0 16, .arr 0 1 fun _ => .val (.pointer none)⟩ i d := by
  refine ⟨Tryz.t164, _, ⟨by kernel_rfl, Tryz.underlying164, by kernel_rfl, by kernel_rfl, by kernel_rfl, ?_, by kernel_rfl, by kernel_rfl, ?_⟩⟩
  · simp [SV.wf, SV.wfA, SV.nt, nilSlice, SV.sz, SV.sz.szL]
  · rfl
theorem ty167 : ∃ i d, TOk Tryz.prog 167 ⟨1, 8, .fn, .val .nilFunc⟩ i d := by
  refine ⟨Tryz.t167, _, ⟨by kernel_rfl, Tryz.underlying167, by kernel_rfl, by kernel_rfl, by kernel_rfl, ?_, by kernel_rfl, by kernel_rfl, ?_⟩⟩
  · simp [SV.wf, nilSlice]
  · exact ⟨_, _, _, rfl⟩
theorem ty168 : ∃ i d, TOk Tryz.prog 168 ⟨1, 1, .int .u8, .int .u8 0⟩ i d := by
  refine ⟨Tryz.t168, _, ⟨by kernel_rfl, Tryz.underlying168, by kernel_rfl, by kernel_rfl, by kernel_rfl, ?_, by kernel_rfl, by kernel_rfl, ?_⟩⟩
  · simp [SV.wf, nilSlice]
  · rfl
theorem ty169 : ∃ i d, TOk Tryz.prog 169 ⟨1, 1, .int .u8, .int .u8 0⟩ i d := by
  refine ⟨Tryz.t169, _, ⟨by kernel_rfl, Tryz.underlying169, by kernel_rfl, by kernel_rfl, by kernel_rfl, ?_, by kernel_rfl, by kernel_rfl, ?_⟩⟩
  · simp [SV.wf, nilSlice]
  · rfl
theorem ty170 : ∃ i d, TOk Tryz.prog 170 ⟨1, 8, .fn, .val .nilFunc⟩ i d := by
  refine ⟨Tryz.t170, _, ⟨by kernel_rfl, Tryz.underlying170, by kernel_rfl, by kernel_rfl, by kernel_rfl, ?_, by kernel_rfl, by kernel_rfl, ?_⟩⟩
  · simp [SV.wf, nilSlice]
  · exact ⟨_, _, _, rfl⟩
theorem ty171 : ∃ i d, TOk Tryz.prog 171 ⟨1, 4, .int .i32, .int .i32 0⟩ i d := by
  refine ⟨Tryz.t171, _, ⟨by kernel_rfl, Tryz.underlying171, by kernel_rfl, by kernel_rfl, by kernel_rfl, ?_, by kernel_rfl, by kernel_rfl, ?_⟩⟩
  · simp [SV.wf, nilSlice]
  · rfl
theorem ty172 : ∃ i d, TOk Tryz.prog 172 ⟨1, 4, .int .i32, .int .i32 0⟩ i d := by
  refine ⟨Tryz.t172, _, ⟨by kernel_rfl, Tryz.underlying172, by kernel_rfl, by kernel_rfl, by kernel_rfl, ?_, by kernel_rfl, by kernel_rfl, ?_⟩⟩
  · simp [SV.wf, nilSlice]
  · rfl
theorem ty173 : ∃ i d, TOk Tryz.prog 173 ⟨11, 48, .struct [(0, 12), (1, 12), (2, 33), (3, 168), (4, 5), (5, 5), (6, 169), (7, 170), (8, 161), (9, 171), (10, 172)], .agg [.int .u64 0, .int .u64 0, .int .u32 0, .int .u8 0, .int .u8 0, .int .u8 0, .int .u8 0, .val .nilFunc, .val (.pointer none), .int .i32 0, .int .i32 0]⟩ i d := by
  refine ⟨Tryz.t173, _, ⟨by kernel_rfl, Tryz.underlying173, by kernel_rfl, by kernel_rfl, by kernel_rfl, ?_, by kernel_rfl, by kernel_rfl, ?_⟩⟩
  · simp [SV.wf, SV.wfA, SV.nt, nilSlice, SV.sz, SV.sz.szL]
  · exact kok_struct _ _ _ rfl (by kernel_rfl) (by kernel_rfl)
theorem ty174 : ∃ i d, TOk Tryz.prog 174 ⟨11, 48, .struct [(0, 12), (1, 12), (2, 33), (3, 168), (4, 5), (5, 5), (6, 169), (7, 170), (8, 161), (9, 171), (10, 172)], .agg [.int .u64 0, .int .u64 0, .int .u32 0, .int .u8 0, .int .u8 0, .int .u8 0, .int .u8 0, .val .nilFunc, .val (.pointer none), .int .i32 0, .int .i32 0]⟩ i d := by
  refine ⟨Tryz.t174, _, ⟨by kernel_rfl, Tryz.underlying174, by kernel_rfl, by kernel_rfl, by kernel_rfl, ?_, by kernel_rfl, by kernel_rfl, ?_⟩⟩
  · simp [SV.wf, SV.wfA, SV.nt, nilSlice, SV.sz, SV.sz.szL]
  · exact kok_struct _ _ _ rfl (by kernel_rfl) (by kernel_rfl)
theorem tenv_ok : ∀ t ti, tenv t = some ti → ∃ i d, TOk Tryz.prog t ti i d := by
  intro t ti h
  unfold tenv at h
  split at h
  · injection h with h; subst h; exact ty1
  · injection h with h; subst h; exact ty2
  · injection h with h; subst h; exact ty3
  · injection h with h; subst h; exact ty4
  · injection h with h; subst h; exact ty5
  · injection h with h; subst h; exact ty6
  · injection h with h; subst h; exact ty7
  · injection h with h; subst h; exact ty8
  · injection h with h; subst h; exact ty9
  · injection h with h; subst h; exact ty10
  · injection h with h; subst h; exact ty11
  · injection h with h; subst h; exact ty12
  · injection h with h; subst h; exact ty13
  · injection h with h; subst h; exact ty14
  · injection h with h; subst h; exact ty15
  · injection h with h; subst h; exact ty16
  · injection h with h; subst h; exact ty17
  · injection h with h; subst h; exact ty18
  · injection h with h; subst h; exact ty19
  · injection h with h; subst h; exact ty20
  · injection h with h; subst h; exact ty21
  · injection h with h; subst h; exact ty22
  · injection h with h; subst h; exact ty23
  · injection h with h; subst h; exact ty24
  · injection h with h; subst h; exact ty25
  · injection h with h; subst h; exact ty27
  · injection h with h; subst h; exact ty28
  · injection h with h; subst h; exact ty30
  · injection h with h; subst h; exact ty31
  · injection h with h; subst h; exact ty32
  · injection h with h; subst h; exact ty33
  · injection h with h; subst h; exact ty34
  · injection h with h; subst h; exact ty35
  · injection h with h; subst h; exact ty36
  · injection h with h; subst h; exact ty38
  · injection h with h; subst h; exact ty39
  · injection h with h; subst h; exact ty41
  · injection h with h; subst h; exact ty42
  · injection h with h; subst h; exact ty43
  · injection h with h; subst h; exact ty44
  · injection h with h; subst h; exact ty45
  · injection h with h; subst h; exact ty46
  · injection h with h; subst h; exact ty47
  · injection h with h; subst h; exact ty48
  · injection h with h; subst h; exact ty49
  · injection h with h; subst h; exact ty50
  · injection h with h; subst h; exact ty51
  · injection h with h; subst h; exact ty52
  · injection h with h; subst h; exact ty53
  · injection h with h; subst h; exact ty54
  · injection h with h; subst h; exact ty55
  · injection h with h; subst h; exact ty56
  · injection h with h; subst h; exact ty57
  · injection h with h; subst h; exact ty58
  · injection h with h; subst h; exact ty59
  · injection h with h; subst h; exact ty60
  · injection h with h; subst h; exact ty61
  · injection h with h; subst h; exact ty62
  · injection h with h; subst h; exact ty63
  · injection h with h; subst h; exact ty64
  · injection h with h; subst h; exact ty65
  · injection h with h; subst h; exact ty66
  · injection h with h; subst h; exact ty67
  · injection h with h; subst h; exact ty68
  · injection h with h; subst h; exact ty69
  · injection h with h; subst h; exact ty71
  · injection h with h; subst h; exact ty72
  · injection h with h; subst h; exact ty73
  · injection h with h; subst h; exact ty74
  · injection h with h; subst h; exact ty75
  · injection h with h; subst h; exact ty76
  · injection h with h; subst h; exact ty78
  · injection h with h; subst h; exact ty79
  · injection h with h; subst h; exact ty80
  · injection h with h; subst h; exact ty81
  · injection h with h; subst h; exact ty82
  · injection h with h; subst h; exact ty83
  · injection h with h; subst h; exact ty84
  · injection h with h; subst h; exact ty85
  · injection h with h; subst h; exact ty86
  · injection h with h; subst h; exact ty87
  · injection h with h; subst h; exact ty88
  · injection h with h; subst h; exact ty89
  · injection h with h; subst h; exact ty90
  · injection h with h; subst h; exact ty91
  · injection h with h; subst h; exact ty92
  · injection h with h; subst h; exact ty93
  · injection h with h; subst h; exact ty94
  · injection h with h; subst h; exact ty95
  · injection h with h; subst h; exact ty96
  · injection h with h; subst h; exact ty97
  · injection h with h; subst h; exact ty98
  · injection h with h; subst h; exact ty99
  · injection h with h; subst h; exact ty100
  · injection h with h; subst h; exact ty102
  · injection h with h; subst h; exact ty103
  · injection h with h; subst h; exact ty104
  · injection h with h; subst h; exact ty105
  · injection h with h; subst h; exact ty106
  · injection h with h; subst h; exact ty107
  · injection h with h; subst h; exact ty108
  · injection h with h; subst h; exact ty109
  · injection h with h; subst h; exact ty110
  · injection h with h; subst h; exact ty111
  · injection h with h; subst h; exact ty112
  · injection h with h; subst h; exact ty113
  · injection h with h; subst h; exact ty114
  · injection h with h; subst h; exact ty115
  · injection h with h; subst h; exact ty116
  · injection h with h; subst h; exact ty117
  · injection h with h; subst h; exact ty118
  · injection h with h; subst h; exact ty119
  · injection h with h; subst h; exact ty120
  · injection h with h; subst h; exact ty121
  · injection h with h; subst h; exact ty122
  · injection h with h; subst h; exact ty123
  · injection h with h; subst h; exact ty124
  · injection h with h; subst h; exact ty125
  · injection h with h; subst h; exact ty126
  · injection h with h; subst h; exact ty127
  · injection h with h; subst h; exact ty128
  · injection h with h; subst h; exact ty129
  · injection h with h; subst h; exact ty130
  · injection h with h; subst h; exact ty131
  · injection h with h; subst h; exact ty132
  · injection h with h; subst h; exact ty134
  · injection h with h; subst h; exact ty135
  · injection h with h; subst h; exact ty136
  · injection h with h; subst h; exact ty137
  · injection h with h; subst h; exact ty139
  · injection h with h; subst h; exact ty140
  · injection h with h; subst h; exact ty141
  · injection h with h; subst h; exact ty142
  · injection h with h; subst h; exact ty143
  · injection h with h; subst h; exact ty144
  · injection h with h; subst h; exact ty145
  · injection h with h; subst h; exact ty146
  · injection h with h; subst h; exact ty147
  · injection h with h; subst h; exact ty148
  · injection h with h; subst h; exact ty149
  · injection h with h; subst h; exact ty150
  · injection h with h; subst h; exact ty151
  · injection h with h; subst h; exact ty152
  · injection h with h; subst h; exact ty153
  · injection h with h; subst h; exact ty154
  · injection h with h; subst h; exact ty155
  · injection h with h; subst h; exact ty156
  · injection h with h; subst h; exact ty157
  · injection h with h; subst h; exact ty158
  · injection h with h; subst h; exact ty160
  · injection h with h; subst h; exact ty161
  · injection h with h; subst h; exact ty162
  · injection h with h; subst h; exact ty163
  · injection h with h; subst h; exact ty164
  · injection h with h; subst h; exact ty167
  · injection h with h; subst h; exact ty168
  · injection h with h; subst h; exact ty169
  · injection h with h; subst h; exact ty170
  · injection h with h; subst h; exact ty171
  · injection h with h; subst h; exact ty172
  · injection h with h; subst h; exact ty173
  · injection h with h; subst h; exact ty174
  · cases h
end Eng
