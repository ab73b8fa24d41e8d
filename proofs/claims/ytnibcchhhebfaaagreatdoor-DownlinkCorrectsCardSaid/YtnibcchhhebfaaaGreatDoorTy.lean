/-
  OWN WORK, written by a program of ours (gen_ty.py): the types of this seat, as the engine wants them.
-/
import Derived.Test.YtnibcchhhebfaaaGreatDoorEngK
namespace Eng
open Go Go.Proofs
set_option linter.unusedVariables false
set_option linter.unusedSimpArgs false
set_option maxRecDepth 100000
set_option maxHeartbeats 4000000

def tenv : TypeId → Option TI
  | 1 => some ⟨1, 8, .fn, .val .nilFunc⟩
  | 2 => some ⟨1, 8, .int .i64, .int .i64 0⟩
  | 3 => some ⟨1, 8, .int .i64, .int .i64 0⟩
  | 4 => some ⟨1, 1, .bool, .bool false⟩
  | 5 => some ⟨1, 1, .int .u8, .int .u8 0⟩
  | 6 => some ⟨1, 1, .int .u8, .int .u8 0⟩
  | 7 => some ⟨4, 24, .struct [(0, 2), (1, 3), (2, 4), (3, 6)], .agg [.int .i64 0, .int .i64 0, .bool false, .int .u8 0]⟩
  | 8 => some ⟨4, 24, .struct [(0, 2), (1, 3), (2, 4), (3, 6)], .agg [.int .i64 0, .int .i64 0, .bool false, .int .u8 0]⟩
  | 9 => some ⟨1, 16, .str, .str []⟩
  | 10 => some ⟨1, 16, .str, .str []⟩
  | 11 => some ⟨1, 16, .str, .str []⟩
  | 12 => some ⟨1, 8, .int .u64, .int .u64 0⟩
  | 13 => some ⟨2, 24, .struct [(0, 9), (1, 12)], .agg [.str [], .int .u64 0]⟩
  | 14 => some ⟨2, 24, .struct [(0, 9), (1, 12)], .agg [.str [], .int .u64 0]⟩
  | 15 => some ⟨1, 8, .ptr 247, .val (.pointer none)⟩
  | 16 => some ⟨1, 8, .ptr 250, .val (.pointer none)⟩
  | 17 => some ⟨1, 8, .ptr 258, .val (.pointer none)⟩
  | 18 => some ⟨1, 8, .struct [(0, 17)], .agg [.val (.pointer none)]⟩
  | 19 => some ⟨1, 8, .struct [(0, 17)], .agg [.val (.pointer none)]⟩
  | 20 => some ⟨1, 16, .iface, .val .nilIface⟩
  | 21 => some ⟨1, 4, .int .i32, .int .i32 0⟩
  | 22 => some ⟨1, 8, .fn, .val .nilFunc⟩
  | 23 => some ⟨1, 8, .int .i64, .int .i64 0⟩
  | 25 => some ⟨1, 8, .fn, .val .nilFunc⟩
  | 27 => some ⟨1, 8, .fn, .val .nilFunc⟩
  | 28 => some ⟨1, 8, .fn, .val .nilFunc⟩
  | 29 => some ⟨1, 24, .slice 9, nilSlice⟩
  | 30 => some ⟨1, 24, .slice 3, nilSlice⟩
  | 31 => some ⟨1, 24, .slice 5, nilSlice⟩
  | 32 => some ⟨5, 88, .struct [(0, 3), (1, 3), (2, 29), (3, 30), (4, 31)], .agg [.int .i64 0, .int .i64 0, nilSlice, nilSlice, nilSlice]⟩
  | 33 => some ⟨5, 88, .struct [(0, 3), (1, 3), (2, 29), (3, 30), (4, 31)], .agg [.int .i64 0, .int .i64 0, nilSlice, nilSlice, nilSlice]⟩
  | 34 => some ⟨1, 24, .slice 43, nilSlice⟩
  | 35 => some ⟨1, 8, .fn, .val .nilFunc⟩
  | 36 => some ⟨1, 8, .ptr 69, .val (.pointer none)⟩
  | 38 => some ⟨1, 8, .fn, .val .nilFunc⟩
  | 39 => some ⟨1, 8, .ptr 52, .val (.pointer none)⟩
  | 41 => some ⟨1, 8, .fn, .val .nilFunc⟩
  | 42 => some ⟨1, 8, .fn, .val .nilFunc⟩
  | 43 => some ⟨1, 2, .int .u16, .int .u16 0⟩
  | 44 => some ⟨1, 24, .slice 57, nilSlice⟩
  | 46 => some ⟨1, 8, .fn, .val .nilFunc⟩
  | 47 => some ⟨1, 8, .fn, .val .nilFunc⟩
  | 48 => some ⟨7, 72, .struct [(0, 3), (1, 30), (2, 4), (3, 3), (4, 4), (5, 3), (6, 3)], .agg [.int .i64 0, nilSlice, .bool false, .int .i64 0, .bool false, .int .i64 0, .int .i64 0]⟩
  | 49 => some ⟨7, 72, .struct [(0, 3), (1, 30), (2, 4), (3, 3), (4, 4), (5, 3), (6, 3)], .agg [.int .i64 0, nilSlice, .bool false, .int .i64 0, .bool false, .int .i64 0, .int .i64 0]⟩
  | 50 => some ⟨1, 8, .ptr 49, .val (.pointer none)⟩
  | 51 => some ⟨3, 24, .struct [(0, 3), (1, 3), (2, 50)], .agg [.int .i64 0, .int .i64 0, .val (.pointer none)]⟩
  | 52 => some ⟨3, 24, .struct [(0, 3), (1, 3), (2, 50)], .agg [.int .i64 0, .int .i64 0, .val (.pointer none)]⟩
  | 53 => some ⟨1, 8, .fn, .val .nilFunc⟩
  | 54 => some ⟨1, 8, .fn, .val .nilFunc⟩
  | 55 => some ⟨1, 8, .fn, .val .nilFunc⟩
  | 56 => some ⟨4, 40, .struct [(0, 9), (1, 4), (2, 3), (3, 3)], .agg [.str [], .bool false, .int .i64 0, .int .i64 0]⟩
  | 57 => some ⟨4, 40, .struct [(0, 9), (1, 4), (2, 3), (3, 3)], .agg [.str [], .bool false, .int .i64 0, .int .i64 0]⟩
  | 58 => some ⟨1, 8, .fn, .val .nilFunc⟩
  | 59 => some ⟨1, 8, .int .u64, .int .u64 0⟩
  | 60 => some ⟨1, 8, .fn, .val .nilFunc⟩
  | 61 => some ⟨1, 8, .fn, .val .nilFunc⟩
  | 62 => some ⟨1, 8, .fn, .val .nilFunc⟩
  | 63 => some ⟨1, 8, .ptr 108, .val (.pointer none)⟩
  | 64 => some ⟨1, 8, .fn, .val .nilFunc⟩
  | 65 => some ⟨1, 8, .fn, .val .nilFunc⟩
  | 66 => some ⟨5, 40, .struct [(0, 60), (1, 60), (2, 60), (3, 64), (4, 65)], .agg [.val .nilFunc, .val .nilFunc, .val .nilFunc, .val .nilFunc, .val .nilFunc]⟩
  | 67 => some ⟨5, 40, .struct [(0, 60), (1, 60), (2, 60), (3, 64), (4, 65)], .agg [.val .nilFunc, .val .nilFunc, .val .nilFunc, .val .nilFunc, .val .nilFunc]⟩
  | 68 => some ⟨6, 48, .struct [(0, 63), (1, 67)], .agg [.val (.pointer none), .agg [.val .nilFunc, .val .nilFunc, .val .nilFunc, .val .nilFunc, .val .nilFunc]]⟩
  | 69 => some ⟨6, 48, .struct [(0, 63), (1, 67)], .agg [.val (.pointer none), .agg [.val .nilFunc, .val .nilFunc, .val .nilFunc, .val .nilFunc, .val .nilFunc]]⟩
  | 70 => some ⟨1, 24, .slice 36, nilSlice⟩
  | 71 => some ⟨1, 8, .fn, .val .nilFunc⟩
  | 72 => some ⟨1, 8, .fn, .val .nilFunc⟩
  | 73 => some ⟨1, 8, .fn, .val .nilFunc⟩
  | 74 => some ⟨1, 8, .fn, .val .nilFunc⟩
  | 75 => some ⟨1, 8, .fn, .val .nilFunc⟩
  | 76 => some ⟨1, 8, .fn, .val .nilFunc⟩
  | 77 => some ⟨1, 24, .slice 60, nilSlice⟩
  | 79 => some ⟨1, 8, .fn, .val .nilFunc⟩
  | 81 => some ⟨1, 8, .fn, .val .nilFunc⟩
  | 82 => some ⟨1, 8, .fn, .val .nilFunc⟩
  | 83 => some ⟨1, 24, .slice 87, nilSlice⟩
  | 85 => some ⟨1, 8, .fn, .val .nilFunc⟩
  | 86 => some ⟨3, 40, .struct [(0, 2), (1, 3), (2, 30)], .agg [.int .i64 0, .int .i64 0, nilSlice]⟩
  | 87 => some ⟨3, 40, .struct [(0, 2), (1, 3), (2, 30)], .agg [.int .i64 0, .int .i64 0, nilSlice]⟩
  | 88 => some ⟨1, 8, .fn, .val .nilFunc⟩
  | 89 => some ⟨1, 8, .fn, .val .nilFunc⟩
  | 91 => some ⟨1, 8, .fn, .val .nilFunc⟩
  | 92 => some ⟨1, 8, .fn, .val .nilFunc⟩
  | 93 => some ⟨1, 8, .fn, .val .nilFunc⟩
  | 95 => some ⟨1, 8, .fn, .val .nilFunc⟩
  | 96 => some ⟨1, 8, .fn, .val .nilFunc⟩
  | 97 => some ⟨1, 8, .fn, .val .nilFunc⟩
  | 99 => some ⟨1, 8, .fn, .val .nilFunc⟩
  | 101 => some ⟨1, 8, .fn, .val .nilFunc⟩
  | 102 => some ⟨1, 8, .fn, .val .nilFunc⟩
  | 103 => some ⟨1, 8, .ptr 105, .val (.pointer none)⟩
  | 104 => some ⟨2, 16, .struct [(0, 2), (1, 4)], .agg [.int .i64 0, .bool false]⟩
  | 105 => some ⟨2, 16, .struct [(0, 2), (1, 4)], .agg [.int .i64 0, .bool false]⟩
  | 106 => some ⟨1, 8, .fn, .val .nilFunc⟩
  | 107 => some ⟨8, 80, .struct [(0, 103), (1, 3), (2, 30), (3, 2), (4, 4), (5, 3), (6, 3), (7, 106)], .agg [.val (.pointer none), .int .i64 0, nilSlice, .int .i64 0, .bool false, .int .i64 0, .int .i64 0, .val .nilFunc]⟩
  | 108 => some ⟨8, 80, .struct [(0, 103), (1, 3), (2, 30), (3, 2), (4, 4), (5, 3), (6, 3), (7, 106)], .agg [.val (.pointer none), .int .i64 0, nilSlice, .int .i64 0, .bool false, .int .i64 0, .int .i64 0, .val .nilFunc]⟩
  | 109 => some ⟨1, 8, .fn, .val .nilFunc⟩
  | 110 => some ⟨1, 8, .fn, .val .nilFunc⟩
  | 111 => some ⟨1, 8, .fn, .val .nilFunc⟩
  | 112 => some ⟨1, 8, .fn, .val .nilFunc⟩
  | 113 => some ⟨1, 8, .fn, .val .nilFunc⟩
  | 114 => some ⟨1, 8, .fn, .val .nilFunc⟩
  | 116 => some ⟨1, 8, .fn, .val .nilFunc⟩
  | 117 => some ⟨1, 4, .int .u32, .int .u32 0⟩
  | 118 => some ⟨1, 24, .slice 31, nilSlice⟩
  | 119 => some ⟨1, 8, .fn, .val .nilFunc⟩
  | 120 => some ⟨3, 24, .struct [(0, 3), (1, 3), (2, 3)], .agg [.int .i64 0, .int .i64 0, .int .i64 0]⟩
  | 121 => some ⟨3, 24, .struct [(0, 3), (1, 3), (2, 3)], .agg [.int .i64 0, .int .i64 0, .int .i64 0]⟩
  | 122 => some ⟨6, 48, .arr 2 121, .arr 2 3 fun _ => .agg [.int .i64 0, .int .i64 0, .int .i64 0]⟩
  | 123 => some ⟨384, 3072, .arr 64 122, .arr 64 6 fun _ => .arr 2 3 fun _ => .agg [.int .i64 0, .int .i64 0, .int .i64 0]⟩
  | 124 => some ⟨1, 8, .fn, .val .nilFunc⟩
  | 125 => some ⟨1, 8, .fn, .val .nilFunc⟩
  | 126 => some ⟨1, 8, .fn, .val .nilFunc⟩
  | 127 => some ⟨1, 8, .fn, .val .nilFunc⟩
  | 128 => some ⟨3, 24, .struct [(0, 3), (1, 3), (2, 3)], .agg [.int .i64 0, .int .i64 0, .int .i64 0]⟩
  | 129 => some ⟨3, 24, .struct [(0, 3), (1, 3), (2, 3)], .agg [.int .i64 0, .int .i64 0, .int .i64 0]⟩
  | 130 => some ⟨6, 48, .arr 2 129, .arr 2 3 fun _ => .agg [.int .i64 0, .int .i64 0, .int .i64 0]⟩
  | 131 => some ⟨384, 3072, .arr 64 130, .arr 64 6 fun _ => .arr 2 3 fun _ => .agg [.int .i64 0, .int .i64 0, .int .i64 0]⟩
  | 132 => some ⟨1, 8, .fn, .val .nilFunc⟩
  | 133 => some ⟨1, 8, .fn, .val .nilFunc⟩
  | 134 => some ⟨1, 8, .fn, .val .nilFunc⟩
  | 135 => some ⟨2, 16, .struct [(0, 3), (1, 3)], .agg [.int .i64 0, .int .i64 0]⟩
  | 136 => some ⟨2, 16, .struct [(0, 3), (1, 3)], .agg [.int .i64 0, .int .i64 0]⟩
  | 137 => some ⟨128, 1024, .arr 64 136, .arr 64 2 fun _ => .agg [.int .i64 0, .int .i64 0]⟩
  | 138 => some ⟨1, 24, .slice 140, nilSlice⟩
  | 139 => some ⟨1, 8, .ptr 140, .val (.pointer none)⟩
  | 140 => some ⟨64, 512, .arr 64 3, .arr 64 1 fun _ => .int .i64 0⟩
  | 141 => some ⟨1, 8, .fn, .val .nilFunc⟩
  | 142 => some ⟨1, 8, .ptr 137, .val (.pointer none)⟩
  | 143 => some ⟨1, 24, .slice 136, nilSlice⟩
  | 144 => some ⟨1, 8, .fn, .val .nilFunc⟩
  | 145 => some ⟨1, 8, .fn, .val .nilFunc⟩
  | 146 => some ⟨1, 8, .fn, .val .nilFunc⟩
  | 147 => some ⟨1, 8, .fn, .val .nilFunc⟩
  | 148 => some ⟨256, 256, .arr 256 4, .arr 256 1 fun _ => .bool false⟩
  | 149 => some ⟨256, 256, .arr 256 4, .arr 256 1 fun _ => .bool false⟩
  | 151 => some ⟨1, 8, .fn, .val .nilFunc⟩
  | 152 => some ⟨1, 8, .fn, .val .nilFunc⟩
  | 153 => some ⟨1, 8, .ptr 149, .val (.pointer none)⟩
  | 154 => some ⟨32, 32, .arr 32 5, .arr 32 1 fun _ => .int .u8 0⟩
  | 155 => some ⟨1, 8, .fn, .val .nilFunc⟩
  | 156 => some ⟨1, 8, .fn, .val .nilFunc⟩
  | 157 => some ⟨1, 24, .slice 159, nilSlice⟩
  | 158 => some ⟨3, 32, .struct [(0, 4), (1, 3), (2, 9)], .agg [.bool false, .int .i64 0, .str []]⟩
  | 159 => some ⟨3, 32, .struct [(0, 4), (1, 3), (2, 9)], .agg [.bool false, .int .i64 0, .str []]⟩
  | 160 => some ⟨1, 8, .fn, .val .nilFunc⟩
  | 162 => some ⟨1, 8, .fn, .val .nilFunc⟩
  | 163 => some ⟨1, 8, .fn, .val .nilFunc⟩
  | 164 => some ⟨1, 8, .fn, .val .nilFunc⟩
  | 165 => some ⟨1, 8, .fn, .val .nilFunc⟩
  | 166 => some ⟨8, 8, .arr 8 5, .arr 8 1 fun _ => .int .u8 0⟩
  | 167 => some ⟨1, 8, .fn, .val .nilFunc⟩
  | 168 => some ⟨1, 8, .fn, .val .nilFunc⟩
  | 170 => some ⟨1, 8, .fn, .val .nilFunc⟩
  | 172 => some ⟨1, 8, .fn, .val .nilFunc⟩
  | 173 => some ⟨1, 8, .fn, .val .nilFunc⟩
  | 174 => some ⟨1, 8, .fn, .val .nilFunc⟩
  | 175 => some ⟨1, 8, .fn, .val .nilFunc⟩
  | 176 => some ⟨1, 8, .fn, .val .nilFunc⟩
  | 178 => some ⟨1, 8, .fn, .val .nilFunc⟩
  | 179 => some ⟨1, 8, .fn, .val .nilFunc⟩
  | 180 => some ⟨1, 8, .fn, .val .nilFunc⟩
  | 181 => some ⟨1, 8, .fn, .val .nilFunc⟩
  | 182 => some ⟨1, 8, .fn, .val .nilFunc⟩
  | 183 => some ⟨1, 24, .slice 5, nilSlice⟩
  | 184 => some ⟨1, 8, .fn, .val .nilFunc⟩
  | 185 => some ⟨1, 8, .fn, .val .nilFunc⟩
  | 186 => some ⟨1, 8, .fn, .val .nilFunc⟩
  | 187 => some ⟨1, 8, .fn, .val .nilFunc⟩
  | 188 => some ⟨1, 8, .fn, .val .nilFunc⟩
  | 189 => some ⟨1, 8, .fn, .val .nilFunc⟩
  | 190 => some ⟨1, 8, .fn, .val .nilFunc⟩
  | 191 => some ⟨1, 24, .slice 193, nilSlice⟩
  | 192 => some ⟨9, 9, .arr 9 5, .arr 9 1 fun _ => .int .u8 0⟩
  | 193 => some ⟨9, 9, .arr 9 5, .arr 9 1 fun _ => .int .u8 0⟩
  | 195 => some ⟨1, 8, .fn, .val .nilFunc⟩
  | 196 => some ⟨1, 24, .slice 30, nilSlice⟩
  | 197 => some ⟨1, 8, .fn, .val .nilFunc⟩
  | 198 => some ⟨1, 8, .fn, .val .nilFunc⟩
  | 199 => some ⟨1, 8, .fn, .val .nilFunc⟩
  | 200 => some ⟨1, 8, .ptr 205, .val (.pointer none)⟩
  | 201 => some ⟨1, 8, .fn, .val .nilFunc⟩
  | 202 => some ⟨255, 255, .arr 255 5, .arr 255 1 fun _ => .int .u8 0⟩
  | 203 => some ⟨256, 2048, .arr 256 3, .arr 256 1 fun _ => .int .i64 0⟩
  | 204 => some ⟨511, 2304, .struct [(0, 202), (255, 203)], .agg [.arr 255 1 fun _ => .int .u8 0, .arr 256 1 fun _ => .int .i64 0]⟩
  | 205 => some ⟨511, 2304, .struct [(0, 202), (255, 203)], .agg [.arr 255 1 fun _ => .int .u8 0, .arr 256 1 fun _ => .int .i64 0]⟩
  | 206 => some ⟨1, 8, .fn, .val .nilFunc⟩
  | 207 => some ⟨1, 8, .int .i64, .int .i64 0⟩
  | 209 => some ⟨1, 8, .fn, .val .nilFunc⟩
  | 210 => some ⟨1, 8, .fn, .val .nilFunc⟩
  | 211 => some ⟨1, 8, .fn, .val .nilFunc⟩
  | 213 => some ⟨1, 8, .fn, .val .nilFunc⟩
  | 214 => some ⟨1, 8, .fn, .val .nilFunc⟩
  | 215 => some ⟨1, 8, .fn, .val .nilFunc⟩
  | 216 => some ⟨1, 8, .int .u64, .int .u64 0⟩
  | 217 => some ⟨1, 8, .fn, .val .nilFunc⟩
  | 218 => some ⟨1, 8, .fn, .val .nilFunc⟩
  | 219 => some ⟨1, 8, .fn, .val .nilFunc⟩
  | 220 => some ⟨1, 8, .fn, .val .nilFunc⟩
  | 221 => some ⟨0, 0, .struct [], .agg []⟩
  | 222 => some ⟨0, 0, .struct [], .agg []⟩
  | 223 => some ⟨1, 8, .fn, .val .nilFunc⟩
  | 224 => some ⟨256, 256, .arr 256 5, .arr 256 1 fun _ => .int .u8 0⟩
  | 225 => some ⟨2, 2, .struct [(0, 5), (1, 5)], .agg [.int .u8 0, .int .u8 0]⟩
  | 226 => some ⟨2, 2, .struct [(0, 5), (1, 5)], .agg [.int .u8 0, .int .u8 0]⟩
  | 227 => some ⟨32, 32, .arr 16 226, .arr 16 2 fun _ => .agg [.int .u8 0, .int .u8 0]⟩
  | 228 => some ⟨1, 8, .fn, .val .nilFunc⟩
  | 229 => some ⟨1, 8, .fn, .val .nilFunc⟩
  | 230 => some ⟨1, 8, .int .u64, .int .u64 0⟩
  | 231 => some ⟨1, 8, .fn, .val .nilFunc⟩
  | 232 => some ⟨1, 8, .fn, .val .nilFunc⟩
  | 233 => some ⟨1, 8, .fn, .val .nilFunc⟩
  | 234 => some ⟨1, 8, .ptr 3, .val (.pointer none)⟩
  | 235 => some ⟨1, 8, .fn, .val .nilFunc⟩
  | 236 => some ⟨1, 8, .fn, .val .nilFunc⟩
  | 237 => some ⟨1, 8, .fn, .val .nilFunc⟩
  | 238 => some ⟨1, 8, .fn, .val .nilFunc⟩
  | 239 => some ⟨1, 8, .fn, .val .nilFunc⟩
  | 240 => some ⟨1, 8, .fn, .val .nilFunc⟩
  | 241 => some ⟨1, 8, .ptr 230, .val (.pointer none)⟩
  | 243 => some ⟨1, 8, .fn, .val .nilFunc⟩
  | 244 => some ⟨1, 8, .fn, .val .nilFunc⟩
  | 245 => some ⟨1, 8, .ptr 193, .val (.pointer none)⟩
  | 246 => some ⟨4, 40, .struct [(0, 17), (1, 17), (2, 17), (3, 9)], .agg [.val (.pointer none), .val (.pointer none), .val (.pointer none), .str []]⟩
  | 247 => some ⟨4, 40, .struct [(0, 17), (1, 17), (2, 17), (3, 9)], .agg [.val (.pointer none), .val (.pointer none), .val (.pointer none), .str []]⟩
  | 248 => some ⟨0, 0, .arr 0 16, .arr 0 1 fun _ => .val (.pointer none)⟩
  | 251 => some ⟨1, 1, .int .u8, .int .u8 0⟩
  | 252 => some ⟨1, 1, .int .u8, .int .u8 0⟩
  | 253 => some ⟨1, 8, .fn, .val .nilFunc⟩
  | 254 => some ⟨1, 8, .ptr 5, .val (.pointer none)⟩
  | 255 => some ⟨1, 4, .int .i32, .int .i32 0⟩
  | 256 => some ⟨1, 4, .int .i32, .int .i32 0⟩
  | 257 => some ⟨11, 48, .struct [(0, 12), (1, 12), (2, 117), (3, 251), (4, 5), (5, 5), (6, 252), (7, 253), (8, 254), (9, 255), (10, 256)], .agg [.int .u64 0, .int .u64 0, .int .u32 0, .int .u8 0, .int .u8 0, .int .u8 0, .int .u8 0, .val .nilFunc, .val (.pointer none), .int .i32 0, .int .i32 0]⟩
  | 258 => some ⟨11, 48, .struct [(0, 12), (1, 12), (2, 117), (3, 251), (4, 5), (5, 5), (6, 252), (7, 253), (8, 254), (9, 255), (10, 256)], .agg [.int .u64 0, .int .u64 0, .int .u32 0, .int .u8 0, .int .u8 0, .int .u8 0, .int .u8 0, .val .nilFunc, .val (.pointer none), .int .i32 0, .int .i32 0]⟩
  | 259 => some ⟨1, 8, .fn, .val .nilFunc⟩
  | _ => none
theorem ty1 : ∃ i d, TOk Tryz.prog 1 ⟨1, 8, .fn, .val .nilFunc⟩ i d := by
  refine ⟨Tryz.t1, _, ⟨by kernel_rfl, Tryz.underlying1, by kernel_rfl, by kernel_rfl, by kernel_rfl, ?_, by kernel_rfl, by kernel_rfl, ?_⟩⟩
  · simp [SV.wf, nilSlice]
  · exact ⟨_, _, _, rfl⟩
theorem ty2 : ∃ i d, TOk Tryz.prog 2 ⟨1, 8, .int .i64, .int .i64 0⟩ i d := by
  refine ⟨Tryz.t2, _, ⟨by kernel_rfl, Tryz.underlying2, by kernel_rfl, by kernel_rfl, by kernel_rfl, ?_, by kernel_rfl, by kernel_rfl, ?_⟩⟩
  · simp [SV.wf, nilSlice]
  · rfl
theorem ty3 : ∃ i d, TOk Tryz.prog 3 ⟨1, 8, .int .i64, .int .i64 0⟩ i d := by
  refine ⟨Tryz.t3, _, ⟨by kernel_rfl, Tryz.underlying3, by kernel_rfl, by kernel_rfl, by kernel_rfl, ?_, by kernel_rfl, by kernel_rfl, ?_⟩⟩
  · simp [SV.wf, nilSlice]
  · rfl
theorem ty4 : ∃ i d, TOk Tryz.prog 4 ⟨1, 1, .bool, .bool false⟩ i d := by
  refine ⟨Tryz.t4, _, ⟨by kernel_rfl, Tryz.underlying4, by kernel_rfl, by kernel_rfl, by kernel_rfl, ?_, by kernel_rfl, by kernel_rfl, ?_⟩⟩
  · simp [SV.wf, nilSlice]
  · rfl
theorem ty5 : ∃ i d, TOk Tryz.prog 5 ⟨1, 1, .int .u8, .int .u8 0⟩ i d := by
  refine ⟨Tryz.t5, _, ⟨by kernel_rfl, Tryz.underlying5, by kernel_rfl, by kernel_rfl, by kernel_rfl, ?_, by kernel_rfl, by kernel_rfl, ?_⟩⟩
  · simp [SV.wf, nilSlice]
  · rfl
theorem ty6 : ∃ i d, TOk Tryz.prog 6 ⟨1, 1, .int .u8, .int .u8 0⟩ i d := by
  refine ⟨Tryz.t6, _, ⟨by kernel_rfl, Tryz.underlying6, by kernel_rfl, by kernel_rfl, by kernel_rfl, ?_, by kernel_rfl, by kernel_rfl, ?_⟩⟩
  · simp [SV.wf, nilSlice]
  · rfl
theorem ty7 : ∃ i d, TOk Tryz.prog 7 ⟨4, 24, .struct [(0, 2), (1, 3), (2, 4), (3, 6)], .agg [.int .i64 0, .int .i64 0, .bool false, .int .u8 0]⟩ i d := by
  refine ⟨Tryz.t7, _, ⟨by kernel_rfl, Tryz.underlying7, by kernel_rfl, by kernel_rfl, by kernel_rfl, ?_, by kernel_rfl, by kernel_rfl, ?_⟩⟩
  · simp [SV.wf, SV.wfA, SV.nt, nilSlice, SV.sz, SV.sz.szL]
  · exact kok_struct _ _ _ rfl (by kernel_rfl) (by kernel_rfl)
theorem ty8 : ∃ i d, TOk Tryz.prog 8 ⟨4, 24, .struct [(0, 2), (1, 3), (2, 4), (3, 6)], .agg [.int .i64 0, .int .i64 0, .bool false, .int .u8 0]⟩ i d := by
  refine ⟨Tryz.t8, _, ⟨by kernel_rfl, Tryz.underlying8, by kernel_rfl, by kernel_rfl, by kernel_rfl, ?_, by kernel_rfl, by kernel_rfl, ?_⟩⟩
  · simp [SV.wf, SV.wfA, SV.nt, nilSlice, SV.sz, SV.sz.szL]
  · exact kok_struct _ _ _ rfl (by kernel_rfl) (by kernel_rfl)
theorem ty9 : ∃ i d, TOk Tryz.prog 9 ⟨1, 16, .str, .str []⟩ i d := by
  refine ⟨Tryz.t9, _, ⟨by kernel_rfl, Tryz.underlying9, by kernel_rfl, by kernel_rfl, by kernel_rfl, ?_, by kernel_rfl, by kernel_rfl, ?_⟩⟩
  · simp [SV.wf, nilSlice]
  · rfl
theorem ty10 : ∃ i d, TOk Tryz.prog 10 ⟨1, 16, .str, .str []⟩ i d := by
  refine ⟨Tryz.t10, _, ⟨by kernel_rfl, Tryz.underlying10, by kernel_rfl, by kernel_rfl, by kernel_rfl, ?_, by kernel_rfl, by kernel_rfl, ?_⟩⟩
  · simp [SV.wf, nilSlice]
  · rfl
theorem ty11 : ∃ i d, TOk Tryz.prog 11 ⟨1, 16, .str, .str []⟩ i d := by
  refine ⟨Tryz.t11, _, ⟨by kernel_rfl, Tryz.underlying11, by kernel_rfl, by kernel_rfl, by kernel_rfl, ?_, by kernel_rfl, by kernel_rfl, ?_⟩⟩
  · simp [SV.wf, nilSlice]
  · rfl
theorem ty12 : ∃ i d, TOk Tryz.prog 12 ⟨1, 8, .int .u64, .int .u64 0⟩ i d := by
  refine ⟨Tryz.t12, _, ⟨by kernel_rfl, Tryz.underlying12, by kernel_rfl, by kernel_rfl, by kernel_rfl, ?_, by kernel_rfl, by kernel_rfl, ?_⟩⟩
  · simp [SV.wf, nilSlice]
  · rfl
theorem ty13 : ∃ i d, TOk Tryz.prog 13 ⟨2, 24, .struct [(0, 9), (1, 12)], .agg [.str [], .int .u64 0]⟩ i d := by
  refine ⟨Tryz.t13, _, ⟨by kernel_rfl, Tryz.underlying13, by kernel_rfl, by kernel_rfl, by kernel_rfl, ?_, by kernel_rfl, by kernel_rfl, ?_⟩⟩
  · simp [SV.wf, SV.wfA, SV.nt, nilSlice, SV.sz, SV.sz.szL]
  · exact kok_struct _ _ _ rfl (by kernel_rfl) (by kernel_rfl)
theorem ty14 : ∃ i d, TOk Tryz.prog 14 ⟨2, 24, .struct [(0, 9), (1, 12)], .agg [.str [], .int .u64 0]⟩ i d := by
  refine ⟨Tryz.t14, _, ⟨by kernel_rfl, Tryz.underlying14, by kernel_rfl, by kernel_rfl, by kernel_rfl, ?_, by kernel_rfl, by kernel_rfl, ?_⟩⟩
  · simp [SV.wf, SV.wfA, SV.nt, nilSlice, SV.sz, SV.sz.szL]
  · exact kok_struct _ _ _ rfl (by kernel_rfl) (by kernel_rfl)
theorem ty15 : ∃ i d, TOk Tryz.prog 15 ⟨1, 8, .ptr 247, .val (.pointer none)⟩ i d := by
  refine ⟨Tryz.t15, _, ⟨by kernel_rfl, Tryz.underlying15, by kernel_rfl, by kernel_rfl, by kernel_rfl, ?_, by kernel_rfl, by kernel_rfl, ?_⟩⟩
  · simp [SV.wf, nilSlice]
  · rfl
theorem ty16 : ∃ i d, TOk Tryz.prog 16 ⟨1, 8, .ptr 250, .val (.pointer none)⟩ i d := by
  refine ⟨Tryz.t16, _, ⟨by kernel_rfl, Tryz.underlying16, by kernel_rfl, by kernel_rfl, by kernel_rfl, ?_, by kernel_rfl, by kernel_rfl, ?_⟩⟩
  · simp [SV.wf, nilSlice]
  · rfl
theorem ty17 : ∃ i d, TOk Tryz.prog 17 ⟨1, 8, .ptr 258, .val (.pointer none)⟩ i d := by
  refine ⟨Tryz.t17, _, ⟨by kernel_rfl, Tryz.underlying17, by kernel_rfl, by kernel_rfl, by kernel_rfl, ?_, by kernel_rfl, by kernel_rfl, ?_⟩⟩
  · simp [SV.wf, nilSlice]
  · rfl
theorem ty18 : ∃ i d, TOk Tryz.prog 18 ⟨1, 8, .struct [(0, 17)], .agg [.val (.pointer none)]⟩ i d := by
  refine ⟨Tryz.t18, _, ⟨by kernel_rfl, Tryz.underlying18, by kernel_rfl, by kernel_rfl, by kernel_rfl, ?_, by kernel_rfl, by kernel_rfl, ?_⟩⟩
  · simp [SV.wf, SV.wfA, SV.nt, nilSlice, SV.sz, SV.sz.szL]
  · exact kok_struct _ _ _ rfl (by kernel_rfl) (by kernel_rfl)
theorem ty19 : ∃ i d, TOk Tryz.prog 19 ⟨1, 8, .struct [(0, 17)], .agg [.val (.pointer none)]⟩ i d := by
  refine ⟨Tryz.t19, _, ⟨by kernel_rfl, Tryz.underlying19, by kernel_rfl, by kernel_rfl, by kernel_rfl, ?_, by kernel_rfl, by kernel_rfl, ?_⟩⟩
  · simp [SV.wf, SV.wfA, SV.nt, nilSlice, SV.sz, SV.sz.szL]
  · exact kok_struct _ _ _ rfl (by kernel_rfl) (by kernel_rfl)
theorem ty20 : ∃ i d, TOk Tryz.prog 20 ⟨1, 16, .iface, .val .nilIface⟩ i d := by
  refine ⟨Tryz.t20, _, ⟨by kernel_rfl, Tryz.underlying20, by kernel_rfl, by kernel_rfl, by kernel_rfl, ?_, by kernel_rfl, by kernel_rfl, ?_⟩⟩
  · simp [SV.wf, nilSlice]
  · exact ⟨_, rfl⟩
theorem ty21 : ∃ i d, TOk Tryz.prog 21 ⟨1, 4, .int .i32, .int .i32 0⟩ i d := by
  refine ⟨Tryz.t21, _, ⟨by kernel_rfl, Tryz.underlying21, by kernel_rfl, by kernel_rfl, by kernel_rfl, ?_, by kernel_rfl, by kernel_rfl, ?_⟩⟩
  · simp [SV.wf, nilSlice]
  · rfl
theorem ty22 : ∃ i d, TOk Tryz.prog 22 ⟨1, 8, .fn, .val .nilFunc⟩ i d := by
  refine ⟨Tryz.t22, _, ⟨by kernel_rfl, Tryz.underlying22, by kernel_rfl, by kernel_rfl, by kernel_rfl, ?_, by kernel_rfl, by kernel_rfl, ?_⟩⟩
  · simp [SV.wf, nilSlice]
  · exact ⟨_, _, _, rfl⟩
theorem ty23 : ∃ i d, TOk Tryz.prog 23 ⟨1, 8, .int .i64, .int .i64 0⟩ i d := by
  refine ⟨Tryz.t23, _, ⟨by kernel_rfl, Tryz.underlying23, by kernel_rfl, by kernel_rfl, by kernel_rfl, ?_, by kernel_rfl, by kernel_rfl, ?_⟩⟩
  · simp [SV.wf, nilSlice]
  · rfl
theorem ty25 : ∃ i d, TOk Tryz.prog 25 ⟨1, 8, .fn, .val .nilFunc⟩ i d := by
  refine ⟨Tryz.t25, _, ⟨by kernel_rfl, Tryz.underlying25, by kernel_rfl, by kernel_rfl, by kernel_rfl, ?_, by kernel_rfl, by kernel_rfl, ?_⟩⟩
  · simp [SV.wf, nilSlice]
  · exact ⟨_, _, _, rfl⟩
theorem ty27 : ∃ i d, TOk Tryz.prog 27 ⟨1, 8, .fn, .val .nilFunc⟩ i d := by
  refine ⟨Tryz.t27, _, ⟨by kernel_rfl, Tryz.underlying27, by kernel_rfl, by kernel_rfl, by kernel_rfl, ?_, by kernel_rfl, by kernel_rfl, ?_⟩⟩
  · simp [SV.wf, nilSlice]
  · exact ⟨_, _, _, rfl⟩
theorem ty28 : ∃ i d, TOk Tryz.prog 28 ⟨1, 8, .fn, .val .nilFunc⟩ i d := by
  refine ⟨Tryz.t28, _, ⟨by kernel_rfl, Tryz.underlying28, by kernel_rfl, by kernel_rfl, by kernel_rfl, ?_, by kernel_rfl, by kernel_rfl, ?_⟩⟩
  · simp [SV.wf, nilSlice]
  · exact ⟨_, _, _, rfl⟩
theorem ty29 : ∃ i d, TOk Tryz.prog 29 ⟨1, 24, .slice 9, nilSlice⟩ i d := by
  refine ⟨Tryz.t29, _, ⟨by kernel_rfl, Tryz.underlying29, by kernel_rfl, by kernel_rfl, by kernel_rfl, ?_, by kernel_rfl, by kernel_rfl, ?_⟩⟩
  · simp [SV.wf, nilSlice]
  · rfl
theorem ty30 : ∃ i d, TOk Tryz.prog 30 ⟨1, 24, .slice 3, nilSlice⟩ i d := by
  refine ⟨Tryz.t30, _, ⟨by kernel_rfl, Tryz.underlying30, by kernel_rfl, by kernel_rfl, by kernel_rfl, ?_, by kernel_rfl, by kernel_rfl, ?_⟩⟩
  · simp [SV.wf, nilSlice]
  · rfl
theorem ty31 : ∃ i d, TOk Tryz.prog 31 ⟨1, 24, .slice 5, nilSlice⟩ i d := by
  refine ⟨Tryz.t31, _, ⟨by kernel_rfl, Tryz.underlying31, by kernel_rfl, by kernel_rfl, by kernel_rfl, ?_, by kernel_rfl, by kernel_rfl, ?_⟩⟩
  · simp [SV.wf, nilSlice]
  · rfl
theorem ty32 : ∃ i d, TOk Tryz.prog 32 ⟨5, 88, .struct [(0, 3), (1, 3), (2, 29), (3, 30), (4, 31)], .agg [.int .i64 0, .int .i64 0, nilSlice, nilSlice, nilSlice]⟩ i d := by
  refine ⟨Tryz.t32, _, ⟨by kernel_rfl, Tryz.underlying32, by kernel_rfl, by kernel_rfl, by kernel_rfl, ?_, by kernel_rfl, by kernel_rfl, ?_⟩⟩
  · simp [SV.wf, SV.wfA, SV.nt, nilSlice, SV.sz, SV.sz.szL]
  · exact kok_struct _ _ _ rfl (by kernel_rfl) (by kernel_rfl)
theorem ty33 : ∃ i d, TOk Tryz.prog 33 ⟨5, 88, .struct [(0, 3), (1, 3), (2, 29), (3, 30), (4, 31)], .agg [.int .i64 0, .int .i64 0, nilSlice, nilSlice, nilSlice]⟩ i d := by
  refine ⟨Tryz.t33, _, ⟨by kernel_rfl, Tryz.underlying33, by kernel_rfl, by kernel_rfl, by kernel_rfl, ?_, by kernel_rfl, by kernel_rfl, ?_⟩⟩
  · simp [SV.wf, SV.wfA, SV.nt, nilSlice, SV.sz, SV.sz.szL]
  · exact kok_struct _ _ _ rfl (by kernel_rfl) (by kernel_rfl)
theorem ty34 : ∃ i d, TOk Tryz.prog 34 ⟨1, 24, .slice 43, nilSlice⟩ i d := by
  refine ⟨Tryz.t34, _, ⟨by kernel_rfl, Tryz.underlying34, by kernel_rfl, by kernel_rfl, by kernel_rfl, ?_, by kernel_rfl, by kernel_rfl, ?_⟩⟩
  · simp [SV.wf, nilSlice]
  · rfl
theorem ty35 : ∃ i d, TOk Tryz.prog 35 ⟨1, 8, .fn, .val .nilFunc⟩ i d := by
  refine ⟨Tryz.t35, _, ⟨by kernel_rfl, Tryz.underlying35, by kernel_rfl, by kernel_rfl, by kernel_rfl, ?_, by kernel_rfl, by kernel_rfl, ?_⟩⟩
  · simp [SV.wf, nilSlice]
  · exact ⟨_, _, _, rfl⟩
theorem ty36 : ∃ i d, TOk Tryz.prog 36 ⟨1, 8, .ptr 69, .val (.pointer none)⟩ i d := by
  refine ⟨Tryz.t36, _, ⟨by kernel_rfl, Tryz.underlying36, by kernel_rfl, by kernel_rfl, by kernel_rfl, ?_, by kernel_rfl, by kernel_rfl, ?_⟩⟩
  · simp [SV.wf, nilSlice]
  · rfl
theorem ty38 : ∃ i d, TOk Tryz.prog 38 ⟨1, 8, .fn, .val .nilFunc⟩ i d := by
  refine ⟨Tryz.t38, _, ⟨by kernel_rfl, Tryz.underlying38, by kernel_rfl, by kernel_rfl, by kernel_rfl, ?_, by kernel_rfl, by kernel_rfl, ?_⟩⟩
  · simp [SV.wf, nilSlice]
  · exact ⟨_, _, _, rfl⟩
theorem ty39 : ∃ i d, TOk Tryz.prog 39 ⟨1, 8, .ptr 52, .val (.pointer none)⟩ i d := by
  refine ⟨Tryz.t39, _, ⟨by kernel_rfl, Tryz.underlying39, by kernel_rfl, by kernel_rfl, by kernel_rfl, ?_, by kernel_rfl, by kernel_rfl, ?_⟩⟩
  · simp [SV.wf, nilSlice]
  · rfl
theorem ty41 : ∃ i d, TOk Tryz.prog 41 ⟨1, 8, .fn, .val .nilFunc⟩ i d := by
  refine ⟨Tryz.t41, _, ⟨by kernel_rfl, Tryz.underlying41, by kernel_rfl, by kernel_rfl, by kernel_rfl, ?_, by kernel_rfl, by kernel_rfl, ?_⟩⟩
  · simp [SV.wf, nilSlice]
  · exact ⟨_, _, _, rfl⟩
theorem ty42 : ∃ i d, TOk Tryz.prog 42 ⟨1, 8, .fn, .val .nilFunc⟩ i d := by
  refine ⟨Tryz.t42, _, ⟨by kernel_rfl, Tryz.underlying42, by kernel_rfl, by kernel_rfl, by kernel_rfl, ?_, by kernel_rfl, by kernel_rfl, ?_⟩⟩
  · simp [SV.wf, nilSlice]
  · exact ⟨_, _, _, rfl⟩
theorem ty43 : ∃ i d, TOk Tryz.prog 43 ⟨1, 2, .int .u16, .int .u16 0⟩ i d := by
  refine ⟨Tryz.t43, _, ⟨by kernel_rfl, Tryz.underlying43, by kernel_rfl, by kernel_rfl, by kernel_rfl, ?_, by kernel_rfl, by kernel_rfl, ?_⟩⟩
  · simp [SV.wf, nilSlice]
  · rfl
theorem ty44 : ∃ i d, TOk Tryz.prog 44 ⟨1, 24, .slice 57, nilSlice⟩ i d := by
  refine ⟨Tryz.t44, _, ⟨by kernel_rfl, Tryz.underlying44, by kernel_rfl, by kernel_rfl, by kernel_rfl, ?_, by kernel_rfl, by kernel_rfl, ?_⟩⟩
  · simp [SV.wf, nilSlice]
  · rfl
theorem ty46 : ∃ i d, TOk Tryz.prog 46 ⟨1, 8, .fn, .val .nilFunc⟩ i d := by
  refine ⟨Tryz.t46, _, ⟨by kernel_rfl, Tryz.underlying46, by kernel_rfl, by kernel_rfl, by kernel_rfl, ?_, by kernel_rfl, by kernel_rfl, ?_⟩⟩
  · simp [SV.wf, nilSlice]
  · exact ⟨_, _, _, rfl⟩
theorem ty47 : ∃ i d, TOk Tryz.prog 47 ⟨1, 8, .fn, .val .nilFunc⟩ i d := by
  refine ⟨Tryz.t47, _, ⟨by kernel_rfl, Tryz.underlying47, by kernel_rfl, by kernel_rfl, by kernel_rfl, ?_, by kernel_rfl, by kernel_rfl, ?_⟩⟩
  · simp [SV.wf, nilSlice]
  · exact ⟨_, _, _, rfl⟩
theorem ty48 : ∃ i d, TOk Tryz.prog 48 ⟨7, 72, .struct [(0, 3), (1, 30), (2, 4), (3, 3), (4, 4), (5, 3), (6, 3)], .agg [.int .i64 0, nilSlice, .bool false, .int .i64 0, .bool false, .int .i64 0, .int .i64 0]⟩ i d := by
  refine ⟨Tryz.t48, _, ⟨by kernel_rfl, Tryz.underlying48, by kernel_rfl, by kernel_rfl, by kernel_rfl, ?_, by kernel_rfl, by kernel_rfl, ?_⟩⟩
  · simp [SV.wf, SV.wfA, SV.nt, nilSlice, SV.sz, SV.sz.szL]
  · exact kok_struct _ _ _ rfl (by kernel_rfl) (by kernel_rfl)
theorem ty49 : ∃ i d, TOk Tryz.prog 49 ⟨7, 72, .struct [(0, 3), (1, 30), (2, 4), (3, 3), (4, 4), (5, 3), (6, 3)], .agg [.int .i64 0, nilSlice, .bool false, .int .i64 0, .bool false, .int .i64 0, .int .i64 0]⟩ i d := by
  refine ⟨Tryz.t49, _, ⟨by kernel_rfl, Tryz.underlying49, by kernel_rfl, by kernel_rfl, by kernel_rfl, ?_, by kernel_rfl, by kernel_rfl, ?_⟩⟩
  · simp [SV.wf, SV.wfA, SV.nt, nilSlice, SV.sz, SV.sz.szL]
  · exact kok_struct _ _ _ rfl (by kernel_rfl) (by kernel_rfl)
theorem ty50 : ∃ i d, TOk Tryz.prog 50 ⟨1, 8, .ptr 49, .val (.pointer none)⟩ i d := by
  refine ⟨Tryz.t50, _, ⟨by kernel_rfl, Tryz.underlying50, by kernel_rfl, by kernel_rfl, by kernel_rfl, ?_, by kernel_rfl, by kernel_rfl, ?_⟩⟩
  · simp [SV.wf, nilSlice]
  · rfl
theorem ty51 : ∃ i d, TOk Tryz.prog 51 ⟨3, 24, .struct [(0, 3), (1, 3), (2, 50)], .agg [.int .i64 0, .int .i64 0, .val (.pointer none)]⟩ i d := by
  refine ⟨Tryz.t51, _, ⟨by kernel_rfl, Tryz.underlying51, by kernel_rfl, by kernel_rfl, by kernel_rfl, ?_, by kernel_rfl, by kernel_rfl, ?_⟩⟩
  · simp [SV.wf, SV.wfA, SV.nt, nilSlice, SV.sz, SV.sz.szL]
  · exact kok_struct _ _ _ rfl (by kernel_rfl) (by kernel_rfl)
theorem ty52 : ∃ i d, TOk Tryz.prog 52 ⟨3, 24, .struct [(0, 3), (1, 3), (2, 50)], .agg [.int .i64 0, .int .i64 0, .val (.pointer none)]⟩ i d := by
  refine ⟨Tryz.t52, _, ⟨by kernel_rfl, Tryz.underlying52, by kernel_rfl, by kernel_rfl, by kernel_rfl, ?_, by kernel_rfl, by kernel_rfl, ?_⟩⟩
  · simp [SV.wf, SV.wfA, SV.nt, nilSlice, SV.sz, SV.sz.szL]
  · exact kok_struct _ _ _ rfl (by kernel_rfl) (by kernel_rfl)
theorem ty53 : ∃ i d, TOk Tryz.prog 53 ⟨1, 8, .fn, .val .nilFunc⟩ i d := by
  refine ⟨Tryz.t53, _, ⟨by kernel_rfl, Tryz.underlying53, by kernel_rfl, by kernel_rfl, by kernel_rfl, ?_, by kernel_rfl, by kernel_rfl, ?_⟩⟩
  · simp [SV.wf, nilSlice]
  · exact ⟨_, _, _, rfl⟩
theorem ty54 : ∃ i d, TOk Tryz.prog 54 ⟨1, 8, .fn, .val .nilFunc⟩ i d := by
  refine ⟨Tryz.t54, _, ⟨by kernel_rfl, Tryz.underlying54, by kernel_rfl, by kernel_rfl, by kernel_rfl, ?_, by kernel_rfl, by kernel_rfl, ?_⟩⟩
  · simp [SV.wf, nilSlice]
  · exact ⟨_, _, _, rfl⟩
theorem ty55 : ∃ i d, TOk Tryz.prog 55 ⟨1, 8, .fn, .val .nilFunc⟩ i d := by
  refine ⟨Tryz.t55, _, ⟨by kernel_rfl, Tryz.underlying55, by kernel_rfl, by kernel_rfl, by kernel_rfl, ?_, by kernel_rfl, by kernel_rfl, ?_⟩⟩
  · simp [SV.wf, nilSlice]
  · exact ⟨_, _, _, rfl⟩
theorem ty56 : ∃ i d, TOk Tryz.prog 56 ⟨4, 40, .struct [(0, 9), (1, 4), (2, 3), (3, 3)], .agg [.str [], .bool false, .int .i64 0, .int .i64 0]⟩ i d := by
  refine ⟨Tryz.t56, _, ⟨by kernel_rfl, Tryz.underlying56, by kernel_rfl, by kernel_rfl, by kernel_rfl, ?_, by kernel_rfl, by kernel_rfl, ?_⟩⟩
  · simp [SV.wf, SV.wfA, SV.nt, nilSlice, SV.sz, SV.sz.szL]
  · exact kok_struct _ _ _ rfl (by kernel_rfl) (by kernel_rfl)
theorem ty57 : ∃ i d, TOk Tryz.prog 57 ⟨4, 40, .struct [(0, 9), (1, 4), (2, 3), (3, 3)], .agg [.str [], .bool false, .int .i64 0, .int .i64 0]⟩ i d := by
  refine ⟨Tryz.t57, _, ⟨by kernel_rfl, Tryz.underlying57, by kernel_rfl, by kernel_rfl, by kernel_rfl, ?_, by kernel_rfl, by kernel_rfl, ?_⟩⟩
  · simp [SV.wf, SV.wfA, SV.nt, nilSlice, SV.sz, SV.sz.szL]
  · exact kok_struct _ _ _ rfl (by kernel_rfl) (by kernel_rfl)
theorem ty58 : ∃ i d, TOk Tryz.prog 58 ⟨1, 8, .fn, .val .nilFunc⟩ i d := by
  refine ⟨Tryz.t58, _, ⟨by kernel_rfl, Tryz.underlying58, by kernel_rfl, by kernel_rfl, by kernel_rfl, ?_, by kernel_rfl, by kernel_rfl, ?_⟩⟩
  · simp [SV.wf, nilSlice]
  · exact ⟨_, _, _, rfl⟩
theorem ty59 : ∃ i d, TOk Tryz.prog 59 ⟨1, 8, .int .u64, .int .u64 0⟩ i d := by
  refine ⟨Tryz.t59, _, ⟨by kernel_rfl, Tryz.underlying59, by kernel_rfl, by kernel_rfl, by kernel_rfl, ?_, by kernel_rfl, by kernel_rfl, ?_⟩⟩
  · simp [SV.wf, nilSlice]
  · rfl
theorem ty60 : ∃ i d, TOk Tryz.prog 60 ⟨1, 8, .fn, .val .nilFunc⟩ i d := by
  refine ⟨Tryz.t60, _, ⟨by kernel_rfl, Tryz.underlying60, by kernel_rfl, by kernel_rfl, by kernel_rfl, ?_, by kernel_rfl, by kernel_rfl, ?_⟩⟩
  · simp [SV.wf, nilSlice]
  · exact ⟨_, _, _, rfl⟩
theorem ty61 : ∃ i d, TOk Tryz.prog 61 ⟨1, 8, .fn, .val .nilFunc⟩ i d := by
  refine ⟨Tryz.t61, _, ⟨by kernel_rfl, Tryz.underlying61, by kernel_rfl, by kernel_rfl, by kernel_rfl, ?_, by kernel_rfl, by kernel_rfl, ?_⟩⟩
  · simp [SV.wf, nilSlice]
  · exact ⟨_, _, _, rfl⟩
theorem ty62 : ∃ i d, TOk Tryz.prog 62 ⟨1, 8, .fn, .val .nilFunc⟩ i d := by
  refine ⟨Tryz.t62, _, ⟨by kernel_rfl, Tryz.underlying62, by kernel_rfl, by kernel_rfl, by kernel_rfl, ?_, by kernel_rfl, by kernel_rfl, ?_⟩⟩
  · simp [SV.wf, nilSlice]
  · exact ⟨_, _, _, rfl⟩
theorem ty63 : ∃ i d, TOk Tryz.prog 63 ⟨1, 8, .ptr 108, .val (.pointer none)⟩ i d := by
  refine ⟨Tryz.t63, _, ⟨by kernel_rfl, Tryz.underlying63, by kernel_rfl, by kernel_rfl, by kernel_rfl, ?_, by kernel_rfl, by kernel_rfl, ?_⟩⟩
  · simp [SV.wf, nilSlice]
  · rfl
theorem ty64 : ∃ i d, TOk Tryz.prog 64 ⟨1, 8, .fn, .val .nilFunc⟩ i d := by
  refine ⟨Tryz.t64, _, ⟨by kernel_rfl, Tryz.underlying64, by kernel_rfl, by kernel_rfl, by kernel_rfl, ?_, by kernel_rfl, by kernel_rfl, ?_⟩⟩
  · simp [SV.wf, nilSlice]
  · exact ⟨_, _, _, rfl⟩
theorem ty65 : ∃ i d, TOk Tryz.prog 65 ⟨1, 8, .fn, .val .nilFunc⟩ i d := by
  refine ⟨Tryz.t65, _, ⟨by kernel_rfl, Tryz.underlying65, by kernel_rfl, by kernel_rfl, by kernel_rfl, ?_, by kernel_rfl, by kernel_rfl, ?_⟩⟩
  · simp [SV.wf, nilSlice]
  · exact ⟨_, _, _, rfl⟩
theorem ty66 : ∃ i d, TOk Tryz.prog 66 ⟨5, 40, .struct [(0, 60), (1, 60), (2, 60), (3, 64), (4, 65)], .agg [.val .nilFunc, .val .nilFunc, .val .nilFunc, .val .nilFunc, .val .nilFunc]⟩ i d := by
  refine ⟨Tryz.t66, _, ⟨by kernel_rfl, Tryz.underlying66, by kernel_rfl, by kernel_rfl, by kernel_rfl, ?_, by kernel_rfl, by kernel_rfl, ?_⟩⟩
  · simp [SV.wf, SV.wfA, SV.nt, nilSlice, SV.sz, SV.sz.szL]
  · exact kok_struct _ _ _ rfl (by kernel_rfl) (by kernel_rfl)
theorem ty67 : ∃ i d, TOk Tryz.prog 67 ⟨5, 40, .struct [(0, 60), (1, 60), (2, 60), (3, 64), (4, 65)], .agg [.val .nilFunc, .val .nilFunc, .val .nilFunc, .val .nilFunc, .val .nilFunc]⟩ i d := by
  refine ⟨Tryz.t67, _, ⟨by kernel_rfl, Tryz.underlying67, by kernel_rfl, by kernel_rfl, by kernel_rfl, ?_, by kernel_rfl, by kernel_rfl, ?_⟩⟩
  · simp [SV.wf, SV.wfA, SV.nt, nilSlice, SV.sz, SV.sz.szL]
  · exact kok_struct _ _ _ rfl (by kernel_rfl) (by kernel_rfl)
theorem ty68 : ∃ i d, TOk Tryz.prog 68 ⟨6, 48, .struct [(0, 63), (1, 67)], .agg [.val (.pointer none), .agg [.val .nilFunc, .val .nilFunc, .val .nilFunc, .val .nilFunc, .val .nilFunc]]⟩ i d := by
  refine ⟨Tryz.t68, _, ⟨by kernel_rfl, Tryz.underlying68, by kernel_rfl, by kernel_rfl, by kernel_rfl, ?_, by kernel_rfl, by kernel_rfl, ?_⟩⟩
  · simp [SV.wf, SV.wfA, SV.nt, nilSlice, SV.sz, SV.sz.szL]
  · exact kok_struct _ _ _ rfl (by kernel_rfl) (by kernel_rfl)
theorem ty69 : ∃ i d, TOk Tryz.prog 69 ⟨6, 48, .struct [(0, 63), (1, 67)], .agg [.val (.pointer none), .agg [.val .nilFunc, .val .nilFunc, .val .nilFunc, .val .nilFunc, .val .nilFunc]]⟩ i d := by
  refine ⟨Tryz.t69, _, ⟨by kernel_rfl, Tryz.underlying69, by kernel_rfl, by kernel_rfl, by kernel_rfl, ?_, by kernel_rfl, by kernel_rfl, ?_⟩⟩
  · simp [SV.wf, SV.wfA, SV.nt, nilSlice, SV.sz, SV.sz.szL]
  · exact kok_struct _ _ _ rfl (by kernel_rfl) (by kernel_rfl)
theorem ty70 : ∃ i d, TOk Tryz.prog 70 ⟨1, 24, .slice 36, nilSlice⟩ i d := by
  refine ⟨Tryz.t70, _, ⟨by kernel_rfl, Tryz.underlying70, by kernel_rfl, by kernel_rfl, by kernel_rfl, ?_, by kernel_rfl, by kernel_rfl, ?_⟩⟩
  · simp [SV.wf, nilSlice]
  · rfl
theorem ty71 : ∃ i d, TOk Tryz.prog 71 ⟨1, 8, .fn, .val .nilFunc⟩ i d := by
  refine ⟨Tryz.t71, _, ⟨by kernel_rfl, Tryz.underlying71, by kernel_rfl, by kernel_rfl, by kernel_rfl, ?_, by kernel_rfl, by kernel_rfl, ?_⟩⟩
  · simp [SV.wf, nilSlice]
  · exact ⟨_, _, _, rfl⟩
theorem ty72 : ∃ i d, TOk Tryz.prog 72 ⟨1, 8, .fn, .val .nilFunc⟩ i d := by
  refine ⟨Tryz.t72, _, ⟨by kernel_rfl, Tryz.underlying72, by kernel_rfl, by kernel_rfl, by kernel_rfl, ?_, by kernel_rfl, by kernel_rfl, ?_⟩⟩
  · simp [SV.wf, nilSlice]
  · exact ⟨_, _, _, rfl⟩
theorem ty73 : ∃ i d, TOk Tryz.prog 73 ⟨1, 8, .fn, .val .nilFunc⟩ i d := by
  refine ⟨Tryz.t73, _, ⟨by kernel_rfl, Tryz.underlying73, by kernel_rfl, by kernel_rfl, by kernel_rfl, ?_, by kernel_rfl, by kernel_rfl, ?_⟩⟩
  · simp [SV.wf, nilSlice]
  · exact ⟨_, _, _, rfl⟩
theorem ty74 : ∃ i d, TOk Tryz.prog 74 ⟨1, 8, .fn, .val .nilFunc⟩ i d := by
  refine ⟨Tryz.t74, _, ⟨by kernel_rfl, Tryz.underlying74, by kernel_rfl, by kernel_rfl, by kernel_rfl, ?_, by kernel_rfl, by kernel_rfl, ?_⟩⟩
  · simp [SV.wf, nilSlice]
  · exact ⟨_, _, _, rfl⟩
theorem ty75 : ∃ i d, TOk Tryz.prog 75 ⟨1, 8, .fn, .val .nilFunc⟩ i d := by
  refine ⟨Tryz.t75, _, ⟨by kernel_rfl, Tryz.underlying75, by kernel_rfl, by kernel_rfl, by kernel_rfl, ?_, by kernel_rfl, by kernel_rfl, ?_⟩⟩
  · simp [SV.wf, nilSlice]
  · exact ⟨_, _, _, rfl⟩
theorem ty76 : ∃ i d, TOk Tryz.prog 76 ⟨1, 8, .fn, .val .nilFunc⟩ i d := by
  refine ⟨Tryz.t76, _, ⟨by kernel_rfl, Tryz.underlying76, by kernel_rfl, by kernel_rfl, by kernel_rfl, ?_, by kernel_rfl, by kernel_rfl, ?_⟩⟩
  · simp [SV.wf, nilSlice]
  · exact ⟨_, _, _, rfl⟩
theorem ty77 : ∃ i d, TOk Tryz.prog 77 ⟨1, 24, .slice 60, nilSlice⟩ i d := by
  refine ⟨Tryz.t77, _, ⟨by kernel_rfl, Tryz.underlying77, by kernel_rfl, by kernel_rfl, by kernel_rfl, ?_, by kernel_rfl, by kernel_rfl, ?_⟩⟩
  · simp [SV.wf, nilSlice]
  · rfl
theorem ty79 : ∃ i d, TOk Tryz.prog 79 ⟨1, 8, .fn, .val .nilFunc⟩ i d := by
  refine ⟨Tryz.t79, _, ⟨by kernel_rfl, Tryz.underlying79, by kernel_rfl, by kernel_rfl, by kernel_rfl, ?_, by kernel_rfl, by kernel_rfl, ?_⟩⟩
  · simp [SV.wf, nilSlice]
  · exact ⟨_, _, _, rfl⟩
theorem ty81 : ∃ i d, TOk Tryz.prog 81 ⟨1, 8, .fn, .val .nilFunc⟩ i d := by
  refine ⟨Tryz.t81, _, ⟨by kernel_rfl, Tryz.underlying81, by kernel_rfl, by kernel_rfl, by kernel_rfl, ?_, by kernel_rfl, by kernel_rfl, ?_⟩⟩
  · simp [SV.wf, nilSlice]
  · exact ⟨_, _, _, rfl⟩
theorem ty82 : ∃ i d, TOk Tryz.prog 82 ⟨1, 8, .fn, .val .nilFunc⟩ i d := by
  refine ⟨Tryz.t82, _, ⟨by kernel_rfl, Tryz.underlying82, by kernel_rfl, by kernel_rfl, by kernel_rfl, ?_, by kernel_rfl, by kernel_rfl, ?_⟩⟩
  · simp [SV.wf, nilSlice]
  · exact ⟨_, _, _, rfl⟩
theorem ty83 : ∃ i d, TOk Tryz.prog 83 ⟨1, 24, .slice 87, nilSlice⟩ i d := by
  refine ⟨Tryz.t83, _, ⟨by kernel_rfl, Tryz.underlying83, by kernel_rfl, by kernel_rfl, by kernel_rfl, ?_, by kernel_rfl, by kernel_rfl, ?_⟩⟩
  · simp [SV.wf, nilSlice]
  · rfl
theorem ty85 : ∃ i d, TOk Tryz.prog 85 ⟨1, 8, .fn, .val .nilFunc⟩ i d := by
  refine ⟨Tryz.t85, _, ⟨by kernel_rfl, Tryz.underlying85, by kernel_rfl, by kernel_rfl, by kernel_rfl, ?_, by kernel_rfl, by kernel_rfl, ?_⟩⟩
  · simp [SV.wf, nilSlice]
  · exact ⟨_, _, _, rfl⟩
theorem ty86 : ∃ i d, TOk Tryz.prog 86 ⟨3, 40, .struct [(0, 2), (1, 3), (2, 30)], .agg [.int .i64 0, .int .i64 0, nilSlice]⟩ i d := by
  refine ⟨Tryz.t86, _, ⟨by kernel_rfl, Tryz.underlying86, by kernel_rfl, by kernel_rfl, by kernel_rfl, ?_, by kernel_rfl, by kernel_rfl, ?_⟩⟩
  · simp [SV.wf, SV.wfA, SV.nt, nilSlice, SV.sz, SV.sz.szL]
  · exact kok_struct _ _ _ rfl (by kernel_rfl) (by kernel_rfl)
theorem ty87 : ∃ i d, TOk Tryz.prog 87 ⟨3, 40, .struct [(0, 2), (1, 3), (2, 30)], .agg [.int .i64 0, .int .i64 0, nilSlice]⟩ i d := by
  refine ⟨Tryz.t87, _, ⟨by kernel_rfl, Tryz.underlying87, by kernel_rfl, by kernel_rfl, by kernel_rfl, ?_, by kernel_rfl, by kernel_rfl, ?_⟩⟩
  · simp [SV.wf, SV.wfA, SV.nt, nilSlice, SV.sz, SV.sz.szL]
  · exact kok_struct _ _ _ rfl (by kernel_rfl) (by kernel_rfl)
theorem ty88 : ∃ i d, TOk Tryz.prog 88 ⟨1, 8, .fn, .val .nilFunc⟩ i d := by
  refine ⟨Tryz.t88, _, ⟨by kernel_rfl, Tryz.underlying88, by kernel_rfl, by kernel_rfl, by kernel_rfl, ?_, by kernel_rfl, by kernel_rfl, ?_⟩⟩
  · simp [SV.wf, nilSlice]
  · exact ⟨_, _, _, rfl⟩
theorem ty89 : ∃ i d, TOk Tryz.prog 89 ⟨1, 8, .fn, .val .nilFunc⟩ i d := by
  refine ⟨Tryz.t89, _, ⟨by kernel_rfl, Tryz.underlying89, by kernel_rfl, by kernel_rfl, by kernel_rfl, ?_, by kernel_rfl, by kernel_rfl, ?_⟩⟩
  · simp [SV.wf, nilSlice]
  · exact ⟨_, _, _, rfl⟩
theorem ty91 : ∃ i d, TOk Tryz.prog 91 ⟨1, 8, .fn, .val .nilFunc⟩ i d := by
  refine ⟨Tryz.t91, _, ⟨by kernel_rfl, Tryz.underlying91, by kernel_rfl, by kernel_rfl, by kernel_rfl, ?_, by kernel_rfl, by kernel_rfl, ?_⟩⟩
  · simp [SV.wf, nilSlice]
  · exact ⟨_, _, _, rfl⟩
theorem ty92 : ∃ i d, TOk Tryz.prog 92 ⟨1, 8, .fn, .val .nilFunc⟩ i d := by
  refine ⟨Tryz.t92, _, ⟨by kernel_rfl, Tryz.underlying92, by kernel_rfl, by kernel_rfl, by kernel_rfl, ?_, by kernel_rfl, by kernel_rfl, ?_⟩⟩
  · simp [SV.wf, nilSlice]
  · exact ⟨_, _, _, rfl⟩
theorem ty93 : ∃ i d, TOk Tryz.prog 93 ⟨1, 8, .fn, .val .nilFunc⟩ i d := by
  refine ⟨Tryz.t93, _, ⟨by kernel_rfl, Tryz.underlying93, by kernel_rfl, by kernel_rfl, by kernel_rfl, ?_, by kernel_rfl, by kernel_rfl, ?_⟩⟩
  · simp [SV.wf, nilSlice]
  · exact ⟨_, _, _, rfl⟩
theorem ty95 : ∃ i d, TOk Tryz.prog 95 ⟨1, 8, .fn, .val .nilFunc⟩ i d := by
  refine ⟨Tryz.t95, _, ⟨by kernel_rfl, Tryz.underlying95, by kernel_rfl, by kernel_rfl, by kernel_rfl, ?_, by kernel_rfl, by kernel_rfl, ?_⟩⟩
  · simp [SV.wf, nilSlice]
  · exact ⟨_, _, _, rfl⟩
theorem ty96 : ∃ i d, TOk Tryz.prog 96 ⟨1, 8, .fn, .val .nilFunc⟩ i d := by
  refine ⟨Tryz.t96, _, ⟨by kernel_rfl, Tryz.underlying96, by kernel_rfl, by kernel_rfl, by kernel_rfl, ?_, by kernel_rfl, by kernel_rfl, ?_⟩⟩
  · simp [SV.wf, nilSlice]
  · exact ⟨_, _, _, rfl⟩
theorem ty97 : ∃ i d, TOk Tryz.prog 97 ⟨1, 8, .fn, .val .nilFunc⟩ i d := by
  refine ⟨Tryz.t97, _, ⟨by kernel_rfl, Tryz.underlying97, by kernel_rfl, by kernel_rfl, by kernel_rfl, ?_, by kernel_rfl, by kernel_rfl, ?_⟩⟩
  · simp [SV.wf, nilSlice]
  · exact ⟨_, _, _, rfl⟩
theorem ty99 : ∃ i d, TOk Tryz.prog 99 ⟨1, 8, .fn, .val .nilFunc⟩ i d := by
  refine ⟨Tryz.t99, _, ⟨by kernel_rfl, Tryz.underlying99, by kernel_rfl, by kernel_rfl, by kernel_rfl, ?_, by kernel_rfl, by kernel_rfl, ?_⟩⟩
  · simp [SV.wf, nilSlice]
  · exact ⟨_, _, _, rfl⟩
theorem ty101 : ∃ i d, TOk Tryz.prog 101 ⟨1, 8, .fn, .val .nilFunc⟩ i d := by
  refine ⟨Tryz.t101, _, ⟨by kernel_rfl, Tryz.underlying101, by kernel_rfl, by kernel_rfl, by kernel_rfl, ?_, by kernel_rfl, by kernel_rfl, ?_⟩⟩
  · simp [SV.wf, nilSlice]
  · exact ⟨_, _, _, rfl⟩
theorem ty102 : ∃ i d, TOk Tryz.prog 102 ⟨1, 8, .fn, .val .nilFunc⟩ i d := by
  refine ⟨Tryz.t102, _, ⟨by kernel_rfl, Tryz.underlying102, by kernel_rfl, by kernel_rfl, by kernel_rfl, ?_, by kernel_rfl, by kernel_rfl, ?_⟩⟩
  · simp [SV.wf, nilSlice]
  · exact ⟨_, _, _, rfl⟩
theorem ty103 : ∃ i d, TOk Tryz.prog 103 ⟨1, 8, .ptr 105, .val (.pointer none)⟩ i d := by
  refine ⟨Tryz.t103, _, ⟨by kernel_rfl, Tryz.underlying103, by kernel_rfl, by kernel_rfl, by kernel_rfl, ?_, by kernel_rfl, by kernel_rfl, ?_⟩⟩
  · simp [SV.wf, nilSlice]
  · rfl
theorem ty104 : ∃ i d, TOk Tryz.prog 104 ⟨2, 16, .struct [(0, 2), (1, 4)], .agg [.int .i64 0, .bool false]⟩ i d := by
  refine ⟨Tryz.t104, _, ⟨by kernel_rfl, Tryz.underlying104, by kernel_rfl, by kernel_rfl, by kernel_rfl, ?_, by kernel_rfl, by kernel_rfl, ?_⟩⟩
  · simp [SV.wf, SV.wfA, SV.nt, nilSlice, SV.sz, SV.sz.szL]
  · exact kok_struct _ _ _ rfl (by kernel_rfl) (by kernel_rfl)
theorem ty105 : ∃ i d, TOk Tryz.prog 105 ⟨2, 16, .struct [(0, 2), (1, 4)], .agg [.int .i64 0, .bool false]⟩ i d := by
  refine ⟨Tryz.t105, _, ⟨by kernel_rfl, Tryz.underlying105, by kernel_rfl, by kernel_rfl, by kernel_rfl, ?_, by kernel_rfl, by kernel_rfl, ?_⟩⟩
  · simp [SV.wf, SV.wfA, SV.nt, nilSlice, SV.sz, SV.sz.szL]
  · exact kok_struct _ _ _ rfl (by kernel_rfl) (by kernel_rfl)
theorem ty106 : ∃ i d, TOk Tryz.prog 106 ⟨1, 8, .fn, .val .nilFunc⟩ i d := by
  refine ⟨Tryz.t106, _, ⟨by kernel_rfl, Tryz.underlying106, by kernel_rfl, by kernel_rfl, by kernel_rfl, ?_, by kernel_rfl, by kernel_rfl, ?_⟩⟩
  · simp [SV.wf, nilSlice]
  · exact ⟨_, _, _, rfl⟩
theorem ty107 : ∃ i d, TOk Tryz.prog 107 ⟨8, 80, .struct [(0, 103), (1, 3), (2, 30), (3, 2), (4, 4), (5, 3), (6, 3), (7, 106)], .agg [.val (.pointer none), .int .i64 0, nilSlice, .int .i64 0, .bool false, .int .i64 0, .int .i64 0, .val .nilFunc]⟩ i d := by
  refine ⟨Tryz.t107, _, ⟨by kernel_rfl, Tryz.underlying107, by kernel_rfl, by kernel_rfl, by kernel_rfl, ?_, by kernel_rfl, by kernel_rfl, ?_⟩⟩
  · simp [SV.wf, SV.wfA, SV.nt, nilSlice, SV.sz, SV.sz.szL]
  · exact kok_struct _ _ _ rfl (by kernel_rfl) (by kernel_rfl)
theorem ty108 : ∃ i d, TOk Tryz.prog 108 ⟨8, 80, .struct [(0, 103), (1, 3), (2, 30), (3, 2), (4, 4), (5, 3), (6, 3), (7, 106)], .agg [.val (.pointer none), .int .i64 0, nilSlice, .int .i64 0, .bool false, .int .i64 0, .int .i64 0, .val .nilFunc]⟩ i d := by
  refine ⟨Tryz.t108, _, ⟨by kernel_rfl, Tryz.underlying108, by kernel_rfl, by kernel_rfl, by kernel_rfl, ?_, by kernel_rfl, by kernel_rfl, ?_⟩⟩
  · simp [SV.wf, SV.wfA, SV.nt, nilSlice, SV.sz, SV.sz.szL]
  · exact kok_struct _ _ _ rfl (by kernel_rfl) (by kernel_rfl)
theorem ty109 : ∃ i d, TOk Tryz.prog 109 ⟨1, 8, .fn, .val .nilFunc⟩ i d := by
  refine ⟨Tryz.t109, _, ⟨by kernel_rfl, Tryz.underlying109, by kernel_rfl, by kernel_rfl, by kernel_rfl, ?_, by kernel_rfl, by kernel_rfl, ?_⟩⟩
  · simp [SV.wf, nilSlice]
  · exact ⟨_, _, _, rfl⟩
theorem ty110 : ∃ i d, TOk Tryz.prog 110 ⟨1, 8, .fn, .val .nilFunc⟩ i d := by
  refine ⟨Tryz.t110, _, ⟨by kernel_rfl, Tryz.underlying110, by kernel_rfl, by kernel_rfl, by kernel_rfl, ?_, by kernel_rfl, by kernel_rfl, ?_⟩⟩
  · simp [SV.wf, nilSlice]
  · exact ⟨_, _, _, rfl⟩
theorem ty111 : ∃ i d, TOk Tryz.prog 111 ⟨1, 8, .fn, .val .nilFunc⟩ i d := by
  refine ⟨Tryz.t111, _, ⟨by kernel_rfl, Tryz.underlying111, by kernel_rfl, by kernel_rfl, by kernel_rfl, ?_, by kernel_rfl, by kernel_rfl, ?_⟩⟩
  · simp [SV.wf, nilSlice]
  · exact ⟨_, _, _, rfl⟩
theorem ty112 : ∃ i d, TOk Tryz.prog 112 ⟨1, 8, .fn, .val .nilFunc⟩ i d := by
  refine ⟨Tryz.t112, _, ⟨by kernel_rfl, Tryz.underlying112, by kernel_rfl, by kernel_rfl, by kernel_rfl, ?_, by kernel_rfl, by kernel_rfl, ?_⟩⟩
  · simp [SV.wf, nilSlice]
  · exact ⟨_, _, _, rfl⟩
theorem ty113 : ∃ i d, TOk Tryz.prog 113 ⟨1, 8, .fn, .val .nilFunc⟩ i d := by
  refine ⟨Tryz.t113, _, ⟨by kernel_rfl, Tryz.underlying113, by kernel_rfl, by kernel_rfl, by kernel_rfl, ?_, by kernel_rfl, by kernel_rfl, ?_⟩⟩
  · simp [SV.wf, nilSlice]
  · exact ⟨_, _, _, rfl⟩
theorem ty114 : ∃ i d, TOk Tryz.prog 114 ⟨1, 8, .fn, .val .nilFunc⟩ i d := by
  refine ⟨Tryz.t114, _, ⟨by kernel_rfl, Tryz.underlying114, by kernel_rfl, by kernel_rfl, by kernel_rfl, ?_, by kernel_rfl, by kernel_rfl, ?_⟩⟩
  · simp [SV.wf, nilSlice]
  · exact ⟨_, _, _, rfl⟩
theorem ty116 : ∃ i d, TOk Tryz.prog 116 ⟨1, 8, .fn, .val .nilFunc⟩ i d := by
  refine ⟨Tryz.t116, _, ⟨by kernel_rfl, Tryz.underlying116, by kernel_rfl, by kernel_rfl, by kernel_rfl, ?_, by kernel_rfl, by kernel_rfl, ?_⟩⟩
  · simp [SV.wf, nilSlice]
  · exact ⟨_, _, _, rfl⟩
theorem ty117 : ∃ i d, TOk Tryz.prog 117 ⟨1, 4, .int .u32, .int .u32 0⟩ i d := by
  refine ⟨Tryz.t117, _, ⟨by kernel_rfl, Tryz.underlying117, by kernel_rfl, by kernel_rfl, by kernel_rfl, ?_, by kernel_rfl, by kernel_rfl, ?_⟩⟩
  · simp [SV.wf, nilSlice]
  · rfl
theorem ty118 : ∃ i d, TOk Tryz.prog 118 ⟨1, 24, .slice 31, nilSlice⟩ i d := by
  refine ⟨Tryz.t118, _, ⟨by kernel_rfl, Tryz.underlying118, by kernel_rfl, by kernel_rfl, by kernel_rfl, ?_, by kernel_rfl, by kernel_rfl, ?_⟩⟩
  · simp [SV.wf, nilSlice]
  · rfl
theorem ty119 : ∃ i d, TOk Tryz.prog 119 ⟨1, 8, .fn, .val .nilFunc⟩ i d := by
  refine ⟨Tryz.t119, _, ⟨by kernel_rfl, Tryz.underlying119, by kernel_rfl, by kernel_rfl, by kernel_rfl, ?_, by kernel_rfl, by kernel_rfl, ?_⟩⟩
  · simp [SV.wf, nilSlice]
  · exact ⟨_, _, _, rfl⟩
theorem ty120 : ∃ i d, TOk Tryz.prog 120 ⟨3, 24, .struct [(0, 3), (1, 3), (2, 3)], .agg [.int .i64 0, .int .i64 0, .int .i64 0]⟩ i d := by
  refine ⟨Tryz.t120, _, ⟨by kernel_rfl, Tryz.underlying120, by kernel_rfl, by kernel_rfl, by kernel_rfl, ?_, by kernel_rfl, by kernel_rfl, ?_⟩⟩
  · simp [SV.wf, SV.wfA, SV.nt, nilSlice, SV.sz, SV.sz.szL]
  · exact kok_struct _ _ _ rfl (by kernel_rfl) (by kernel_rfl)
theorem ty121 : ∃ i d, TOk Tryz.prog 121 ⟨3, 24, .struct [(0, 3), (1, 3), (2, 3)], .agg [.int .i64 0, .int .i64 0, .int .i64 0]⟩ i d := by
  refine ⟨Tryz.t121, _, ⟨by kernel_rfl, Tryz.underlying121, by kernel_rfl, by kernel_rfl, by kernel_rfl, ?_, by kernel_rfl, by kernel_rfl, ?_⟩⟩
  · simp [SV.wf, SV.wfA, SV.nt, nilSlice, SV.sz, SV.sz.szL]
  · exact kok_struct _ _ _ rfl (by kernel_rfl) (by kernel_rfl)
theorem ty122 : ∃ i d, TOk Tryz.prog 122 ⟨6, 48, .arr 2 121, .arr 2 3 fun _ => .agg [.int .i64 0, .int .i64 0, .int .i64 0]⟩ i d := by
  refine ⟨Tryz.t122, _, ⟨by kernel_rfl, Tryz.underlying122, by kernel_rfl, by kernel_rfl, by kernel_rfl, ?_, by kernel_rfl, by kernel_rfl, ?_⟩⟩
  · simp [SV.wf, SV.wfA, SV.nt, nilSlice, SV.sz, SV.sz.szL]
  · rfl
theorem ty123 : ∃ i d, TOk Tryz.prog 123 ⟨384, 3072, .arr 64 122, .arr 64 6 fun _ => .arr 2 3 fun _ => .agg [.int .i64 0, .int .i64 0, .int .i64 0]⟩ i d := by
  refine ⟨Tryz.t123, _, ⟨by kernel_rfl, Tryz.underlying123, by kernel_rfl, by kernel_rfl, by kernel_rfl, ?_, by kernel_rfl, by kernel_rfl, ?_⟩⟩
  · simp [SV.wf, SV.wfA, SV.nt, nilSlice, SV.sz, SV.sz.szL]
  · rfl
theorem ty124 : ∃ i d, TOk Tryz.prog 124 ⟨1, 8, .fn, .val .nilFunc⟩ i d := by
  refine ⟨Tryz.t124, _, ⟨by kernel_rfl, Tryz.underlying124, by kernel_rfl, by kernel_rfl, by kernel_rfl, ?_, by kernel_rfl, by kernel_rfl, ?_⟩⟩
  · simp [SV.wf, nilSlice]
  · exact ⟨_, _, _, rfl⟩
theorem ty125 : ∃ i d, TOk Tryz.prog 125 ⟨1, 8, .fn, .val .nilFunc⟩ i d := by
  refine ⟨Tryz.t125, _, ⟨by kernel_rfl, Tryz.underlying125, by kernel_rfl, by kernel_rfl, by kernel_rfl, ?_, by kernel_rfl, by kernel_rfl, ?_⟩⟩
  · simp [SV.wf, nilSlice]
  · exact ⟨_, _, _, rfl⟩
theorem ty126 : ∃ i d, TOk Tryz.prog 126 ⟨1, 8, .fn, .val .nilFunc⟩ i d := by
  refine ⟨Tryz.t126, _, ⟨by kernel_rfl, Tryz.underlying126, by kernel_rfl, by kernel_rfl, by kernel_rfl, ?_, by kernel_rfl, by kernel_rfl, ?_⟩⟩
  · simp [SV.wf, nilSlice]
  · exact ⟨_, _, _, rfl⟩
theorem ty127 : ∃ i d, TOk Tryz.prog 127 ⟨1, 8, .fn, .val .nilFunc⟩ i d := by
  refine ⟨Tryz.t127, _, ⟨by kernel_rfl, Tryz.underlying127, by kernel_rfl, by kernel_rfl, by kernel_rfl, ?_, by kernel_rfl, by kernel_rfl, ?_⟩⟩
  · simp [SV.wf, nilSlice]
  · exact ⟨_, _, _, rfl⟩
theorem ty128 : ∃ i d, TOk Tryz.prog 128 ⟨3, 24, .struct [(0, 3), (1, 3), (2, 3)], .agg [.int .i64 0, .int .i64 0, .int .i64 0]⟩ i d := by
  refine ⟨Tryz.t128, _, ⟨by kernel_rfl, Tryz.underlying128, by kernel_rfl, by kernel_rfl, by kernel_rfl, ?_, by kernel_rfl, by kernel_rfl, ?_⟩⟩
  · simp [SV.wf, SV.wfA, SV.nt, nilSlice, SV.sz, SV.sz.szL]
  · exact kok_struct _ _ _ rfl (by kernel_rfl) (by kernel_rfl)
theorem ty129 : ∃ i d, TOk Tryz.prog 129 ⟨3, 24, .struct [(0, 3), (1, 3), (2, 3)], .agg [.int .i64 0, .int .i64 0, .int .i64 0]⟩ i d := by
  refine ⟨Tryz.t129, _, ⟨by kernel_rfl, Tryz.underlying129, by kernel_rfl, by kernel_rfl, by kernel_rfl, ?_, by kernel_rfl, by kernel_rfl, ?_⟩⟩
  · simp [SV.wf, SV.wfA, SV.nt, nilSlice, SV.sz, SV.sz.szL]
  · exact kok_struct _ _ _ rfl (by kernel_rfl) (by kernel_rfl)
theorem ty130 : ∃ i d, TOk Tryz.prog 130 ⟨6, 48, .arr 2 129, .arr 2 3 fun _ => .agg [.int .i64 0, .int .i64 0, .int .i64 0]⟩ i d := by
  refine ⟨Tryz.t130, _, ⟨by kernel_rfl, Tryz.underlying130, by kernel_rfl, by kernel_rfl, by kernel_rfl, ?_, by kernel_rfl, by kernel_rfl, ?_⟩⟩
  · simp [SV.wf, SV.wfA, SV.nt, nilSlice, SV.sz, SV.sz.szL]
  · rfl
theorem ty131 : ∃ i d, TOk Tryz.prog 131 ⟨384, 3072, .arr 64 130, .arr 64 6 fun _ => .arr 2 3 fun _ => .agg [.int .i64 0, .int .i64 0, .int .i64 0]⟩ i d := by
  refine ⟨Tryz.t131, _, ⟨by kernel_rfl, Tryz.underlying131, by kernel_rfl, by kernel_rfl, by kernel_rfl, ?_, by kernel_rfl, by kernel_rfl, ?_⟩⟩
  · simp [SV.wf, SV.wfA, SV.nt, nilSlice, SV.sz, SV.sz.szL]
  · rfl
theorem ty132 : ∃ i d, TOk Tryz.prog 132 ⟨1, 8, .fn, .val .nilFunc⟩ i d := by
  refine ⟨Tryz.t132, _, ⟨by kernel_rfl, Tryz.underlying132, by kernel_rfl, by kernel_rfl, by kernel_rfl, ?_, by kernel_rfl, by kernel_rfl, ?_⟩⟩
  · simp [SV.wf, nilSlice]
  · exact ⟨_, _, _, rfl⟩
theorem ty133 : ∃ i d, TOk Tryz.prog 133 ⟨1, 8, .fn, .val .nilFunc⟩ i d := by
  refine ⟨Tryz.t133, _, ⟨by kernel_rfl, Tryz.underlying133, by kernel_rfl, by kernel_rfl, by kernel_rfl, ?_, by kernel_rfl, by kernel_rfl, ?_⟩⟩
  · simp [SV.wf, nilSlice]
  · exact ⟨_, _, _, rfl⟩
theorem ty134 : ∃ i d, TOk Tryz.prog 134 ⟨1, 8, .fn, .val .nilFunc⟩ i d := by
  refine ⟨Tryz.t134, _, ⟨by kernel_rfl, Tryz.underlying134, by kernel_rfl, by kernel_rfl, by kernel_rfl, ?_, by kernel_rfl, by kernel_rfl, ?_⟩⟩
  · simp [SV.wf, nilSlice]
  · exact ⟨_, _, _, rfl⟩
theorem ty135 : ∃ i d, TOk Tryz.prog 135 ⟨2, 16, .struct [(0, 3), (1, 3)], .agg [.int .i64 0, .int .i64 0]⟩ i d := by
  refine ⟨Tryz.t135, _, ⟨by kernel_rfl, Tryz.underlying135, by kernel_rfl, by kernel_rfl, by kernel_rfl, ?_, by kernel_rfl, by kernel_rfl, ?_⟩⟩
  · simp [SV.wf, SV.wfA, SV.nt, nilSlice, SV.sz, SV.sz.szL]
  · exact kok_struct _ _ _ rfl (by kernel_rfl) (by kernel_rfl)
theorem ty136 : ∃ i d, TOk Tryz.prog 136 ⟨2, 16, .struct [(0, 3), (1, 3)], .agg [.int .i64 0, .int .i64 0]⟩ i d := by
  refine ⟨Tryz.t136, _, ⟨by kernel_rfl, Tryz.underlying136, by kernel_rfl, by kernel_rfl, by kernel_rfl, ?_, by kernel_rfl, by kernel_rfl, ?_⟩⟩
  · simp [SV.wf, SV.wfA, SV.nt, nilSlice, SV.sz, SV.sz.szL]
  · exact kok_struct _ _ _ rfl (by kernel_rfl) (by kernel_rfl)
theorem ty137 : ∃ i d, TOk Tryz.prog 137 ⟨128, 1024, .arr 64 136, .arr 64 2 fun _ => .agg [.int .i64 0, .int .i64 0]⟩ i d := by
  refine ⟨Tryz.t137, _, ⟨by kernel_rfl, Tryz.underlying137, by kernel_rfl, by kernel_rfl, by kernel_rfl, ?_, by kernel_rfl, by kernel_rfl, ?_⟩⟩
  · simp [SV.wf, SV.wfA, SV.nt, nilSlice, SV.sz, SV.sz.szL]
  · rfl
theorem ty138 : ∃ i d, TOk Tryz.prog 138 ⟨1, 24, .slice 140, nilSlice⟩ i d := by
  refine ⟨Tryz.t138, _, ⟨by kernel_rfl, Tryz.underlying138, by kernel_rfl, by kernel_rfl, by kernel_rfl, ?_, by kernel_rfl, by kernel_rfl, ?_⟩⟩
  · simp [SV.wf, nilSlice]
  · rfl
theorem ty139 : ∃ i d, TOk Tryz.prog 139 ⟨1, 8, .ptr 140, .val (.pointer none)⟩ i d := by
  refine ⟨Tryz.t139, _, ⟨by kernel_rfl, Tryz.underlying139, by kernel_rfl, by kernel_rfl, by kernel_rfl, ?_, by kernel_rfl, by kernel_rfl, ?_⟩⟩
  · simp [SV.wf, nilSlice]
  · rfl
theorem ty140 : ∃ i d, TOk Tryz.prog 140 ⟨64, 512, .arr 64 3, .arr 64 1 fun _ => .int .i64 0⟩ i d := by
  refine ⟨Tryz.t140, _, ⟨by kernel_rfl, Tryz.underlying140, by kernel_rfl, by kernel_rfl, by kernel_rfl, ?_, by kernel_rfl, by kernel_rfl, ?_⟩⟩
  · simp [SV.wf, SV.wfA, SV.nt, nilSlice, SV.sz, SV.sz.szL]
  · rfl
theorem ty141 : ∃ i d, TOk Tryz.prog 141 ⟨1, 8, .fn, .val .nilFunc⟩ i d := by
  refine ⟨Tryz.t141, _, ⟨by kernel_rfl, Tryz.underlying141, by kernel_rfl, by kernel_rfl, by kernel_rfl, ?_, by kernel_rfl, by kernel_rfl, ?_⟩⟩
  · simp [SV.wf, nilSlice]
  · exact ⟨_, _, _, rfl⟩
theorem ty142 : ∃ i d, TOk Tryz.prog 142 ⟨1, 8, .ptr 137, .val (.pointer none)⟩ i d := by
  refine ⟨Tryz.t142, _, ⟨by kernel_rfl, Tryz.underlying142, by kernel_rfl, by kernel_rfl, by kernel_rfl, ?_, by kernel_rfl, by kernel_rfl, ?_⟩⟩
  · simp [SV.wf, nilSlice]
  · rfl
theorem ty143 : ∃ i d, TOk Tryz.prog 143 ⟨1, 24, .slice 136, nilSlice⟩ i d := by
  refine ⟨Tryz.t143, _, ⟨by kernel_rfl, Tryz.underlying143, by kernel_rfl, by kernel_rfl, by kernel_rfl, ?_, by kernel_rfl, by kernel_rfl, ?_⟩⟩
  · simp [SV.wf, nilSlice]
  · rfl
theorem ty144 : ∃ i d, TOk Tryz.prog 144 ⟨1, 8, .fn, .val .nilFunc⟩ i d := by
  refine ⟨Tryz.t144, _, ⟨by kernel_rfl, Tryz.underlying144, by kernel_rfl, by kernel_rfl, by kernel_rfl, ?_, by kernel_rfl, by kernel_rfl, ?_⟩⟩
  · simp [SV.wf, nilSlice]
  · exact ⟨_, _, _, rfl⟩
theorem ty145 : ∃ i d, TOk Tryz.prog 145 ⟨1, 8, .fn, .val .nilFunc⟩ i d := by
  refine ⟨Tryz.t145, _, ⟨by kernel_rfl, Tryz.underlying145, by kernel_rfl, by kernel_rfl, by kernel_rfl, ?_, by kernel_rfl, by kernel_rfl, ?_⟩⟩
  · simp [SV.wf, nilSlice]
  · exact ⟨_, _, _, rfl⟩
theorem ty146 : ∃ i d, TOk Tryz.prog 146 ⟨1, 8, .fn, .val .nilFunc⟩ i d := by
  refine ⟨Tryz.t146, _, ⟨by kernel_rfl, Tryz.underlying146, by kernel_rfl, by kernel_rfl, by kernel_rfl, ?_, by kernel_rfl, by kernel_rfl, ?_⟩⟩
  · simp [SV.wf, nilSlice]
  · exact ⟨_, _, _, rfl⟩
theorem ty147 : ∃ i d, TOk Tryz.prog 147 ⟨1, 8, .fn, .val .nilFunc⟩ i d := by
  refine ⟨Tryz.t147, _, ⟨by kernel_rfl, Tryz.underlying147, by kernel_rfl, by kernel_rfl, by kernel_rfl, ?_, by kernel_rfl, by kernel_rfl, ?_⟩⟩
  · simp [SV.wf, nilSlice]
  · exact ⟨_, _, _, rfl⟩
theorem ty148 : ∃ i d, TOk Tryz.prog 148 ⟨256, 256, .arr 256 4, .arr 256 1 fun _ => .bool false⟩ i d := by
  refine ⟨Tryz.t148, _, ⟨by kernel_rfl, Tryz.underlying148, by kernel_rfl, by kernel_rfl, by kernel_rfl, ?_, by kernel_rfl, by kernel_rfl, ?_⟩⟩
  · simp [SV.wf, SV.wfA, SV.nt, nilSlice, SV.sz, SV.sz.szL]
  · rfl
theorem ty149 : ∃ i d, TOk Tryz.prog 149 ⟨256, 256, .arr 256 4, .arr 256 1 fun _ => .bool false⟩ i d := by
  refine ⟨Tryz.t149, _, ⟨by kernel_rfl, Tryz.underlying149, by kernel_rfl, by kernel_rfl, by kernel_rfl, ?_, by kernel_rfl, by kernel_rfl, ?_⟩⟩
  · simp [SV.wf, SV.wfA, SV.nt, nilSlice, SV.sz, SV.sz.szL]
  · rfl
theorem ty151 : ∃ i d, TOk Tryz.prog 151 ⟨1, 8, .fn, .val .nilFunc⟩ i d := by
  refine ⟨Tryz.t151, _, ⟨by kernel_rfl, Tryz.underlying151, by kernel_rfl, by kernel_rfl, by kernel_rfl, ?_, by kernel_rfl, by kernel_rfl, ?_⟩⟩
  · simp [SV.wf, nilSlice]
  · exact ⟨_, _, _, rfl⟩
theorem ty152 : ∃ i d, TOk Tryz.prog 152 ⟨1, 8, .fn, .val .nilFunc⟩ i d := by
  refine ⟨Tryz.t152, _, ⟨by kernel_rfl, Tryz.underlying152, by kernel_rfl, by kernel_rfl, by kernel_rfl, ?_, by kernel_rfl, by kernel_rfl, ?_⟩⟩
  · simp [SV.wf, nilSlice]
  · exact ⟨_, _, _, rfl⟩
theorem ty153 : ∃ i d, TOk Tryz.prog 153 ⟨1, 8, .ptr 149, .val (.pointer none)⟩ i d := by
  refine ⟨Tryz.t153, _, ⟨by kernel_rfl, Tryz.underlying153, by kernel_rfl, by kernel_rfl, by kernel_rfl, ?_, by kernel_rfl, by kernel_rfl, ?_⟩⟩
  · simp [SV.wf, nilSlice]
  · rfl
theorem ty154 : ∃ i d, TOk Tryz.prog 154 ⟨32, 32, .arr 32 5, .arr 32 1 fun _ => .int .u8 0⟩ i d := by
  refine ⟨Tryz.t154, _, ⟨by kernel_rfl, Tryz.underlying154, by kernel_rfl, by kernel_rfl, by kernel_rfl, ?_, by kernel_rfl, by kernel_rfl, ?_⟩⟩
  · simp [SV.wf, SV.wfA, SV.nt, nilSlice, SV.sz, SV.sz.szL]
  · rfl
theorem ty155 : ∃ i d, TOk Tryz.prog 155 ⟨1, 8, .fn, .val .nilFunc⟩ i d := by
  refine ⟨Tryz.t155, _, ⟨by kernel_rfl, Tryz.underlying155, by kernel_rfl, by kernel_rfl, by kernel_rfl, ?_, by kernel_rfl, by kernel_rfl, ?_⟩⟩
  · simp [SV.wf, nilSlice]
  · exact ⟨_, _, _, rfl⟩
theorem ty156 : ∃ i d, TOk Tryz.prog 156 ⟨1, 8, .fn, .val .nilFunc⟩ i d := by
  refine ⟨Tryz.t156, _, ⟨by kernel_rfl, Tryz.underlying156, by kernel_rfl, by kernel_rfl, by kernel_rfl, ?_, by kernel_rfl, by kernel_rfl, ?_⟩⟩
  · simp [SV.wf, nilSlice]
  · exact ⟨_, _, _, rfl⟩
theorem ty157 : ∃ i d, TOk Tryz.prog 157 ⟨1, 24, .slice 159, nilSlice⟩ i d := by
  refine ⟨Tryz.t157, _, ⟨by kernel_rfl, Tryz.underlying157, by kernel_rfl, by kernel_rfl, by kernel_rfl, ?_, by kernel_rfl, by kernel_rfl, ?_⟩⟩
  · simp [SV.wf, nilSlice]
  · rfl
theorem ty158 : ∃ i d, TOk Tryz.prog 158 ⟨3, 32, .struct [(0, 4), (1, 3), (2, 9)], .agg [.bool false, .int .i64 0, .str []]⟩ i d := by
  refine ⟨Tryz.t158, _, ⟨by kernel_rfl, Tryz.underlying158, by kernel_rfl, by kernel_rfl, by kernel_rfl, ?_, by kernel_rfl, by kernel_rfl, ?_⟩⟩
  · simp [SV.wf, SV.wfA, SV.nt, nilSlice, SV.sz, SV.sz.szL]
  · exact kok_struct _ _ _ rfl (by kernel_rfl) (by kernel_rfl)
theorem ty159 : ∃ i d, TOk Tryz.prog 159 ⟨3, 32, .struct [(0, 4), (1, 3), (2, 9)], .agg [.bool false, .int .i64 0, .str []]⟩ i d := by
  refine ⟨Tryz.t159, _, ⟨by kernel_rfl, Tryz.underlying159, by kernel_rfl, by kernel_rfl, by kernel_rfl, ?_, by kernel_rfl, by kernel_rfl, ?_⟩⟩
  · simp [SV.wf, SV.wfA, SV.nt, nilSlice, SV.sz, SV.sz.szL]
  · exact kok_struct _ _ _ rfl (by kernel_rfl) (by kernel_rfl)
theorem ty160 : ∃ i d, TOk Tryz.prog 160 ⟨1, 8, .fn, .val .nilFunc⟩ i d := by
  refine ⟨Tryz.t160, _, ⟨by kernel_rfl, Tryz.underlying160, by kernel_rfl, by kernel_rfl, by kernel_rfl, ?_, by kernel_rfl, by kernel_rfl, ?_⟩⟩
  · simp [SV.wf, nilSlice]
  · exact ⟨_, _, _, rfl⟩
theorem ty162 : ∃ i d, TOk Tryz.prog 162 ⟨1, 8, .fn, .val .nilFunc⟩ i d := by
  refine ⟨Tryz.t162, _, ⟨by kernel_rfl, Tryz.underlying162, by kernel_rfl, by kernel_rfl, by kernel_rfl, ?_, by kernel_rfl, by kernel_rfl, ?_⟩⟩
  · simp [SV.wf, nilSlice]
  · exact ⟨_, _, _, rfl⟩
theorem ty163 : ∃ i d, TOk Tryz.prog 163 ⟨1, 8, .fn, .val .nilFunc⟩ i d := by
  refine ⟨Tryz.t163, _, ⟨by kernel_rfl, Tryz.underlying163, by kernel_rfl, by kernel_rfl, by kernel_rfl, ?_, by kernel_rfl, by kernel_rfl, ?_⟩⟩
  · simp [SV.wf, nilSlice]
  · exact ⟨_, _, _, rfl⟩
theorem ty164 : ∃ i d, TOk Tryz.prog 164 ⟨1, 8, .fn, .val .nilFunc⟩ i d := by
  refine ⟨Tryz.t164, _, ⟨by kernel_rfl, Tryz.underlying164, by kernel_rfl, by kernel_rfl, by kernel_rfl, ?_, by kernel_rfl, by kernel_rfl, ?_⟩⟩
  · simp [SV.wf, nilSlice]
  · exact ⟨_, _, _, rfl⟩
theorem ty165 : ∃ i d, TOk Tryz.prog 165 ⟨1, 8, .fn, .val .nilFunc⟩ i d := by
  refine ⟨Tryz.t165, _, ⟨by kernel_rfl, Tryz.underlying165, by kernel_rfl, by kernel_rfl, by kernel_rfl, ?_, by kernel_rfl, by kernel_rfl, ?_⟩⟩
  · simp [SV.wf, nilSlice]
  · exact ⟨_, _, _, rfl⟩
theorem ty166 : ∃ i d, TOk Tryz.prog 166 ⟨8, 8, .arr 8 5, .arr 8 1 fun _ => .int .u8 0⟩ i d := by
  refine ⟨Tryz.t166, _, ⟨by kernel_rfl, Tryz.underlying166, by kernel_rfl, by kernel_rfl, by kernel_rfl, ?_, by kernel_rfl, by kernel_rfl, ?_⟩⟩
  · simp [SV.wf, SV.wfA, SV.nt, nilSlice, SV.sz, SV.sz.szL]
  · rfl
theorem ty167 : ∃ i d, TOk Tryz.prog 167 ⟨1, 8, .fn, .val .nilFunc⟩ i d := by
  refine ⟨Tryz.t167, _, ⟨by kernel_rfl, Tryz.underlying167, by kernel_rfl, by kernel_rfl, by kernel_rfl, ?_, by kernel_rfl, by kernel_rfl, ?_⟩⟩
  · simp [SV.wf, nilSlice]
  · exact ⟨_, _, _, rfl⟩
theorem ty168 : ∃ i d, TOk Tryz.prog 168 ⟨1, 8, .fn, .val .nilFunc⟩ i d := by
  refine ⟨Tryz.t168, _, ⟨by kernel_rfl, Tryz.underlying168, by kernel_rfl, by kernel_rfl, by kernel_rfl, ?_, by kernel_rfl, by kernel_rfl, ?_⟩⟩
  · simp [SV.wf, nilSlice]
  · exact ⟨_, _, _, rfl⟩
theorem ty170 : ∃ i d, TOk Tryz.prog 170 ⟨1, 8, .fn, .val .nilFunc⟩ i d := by
  refine ⟨Tryz.t170, _, ⟨by kernel_rfl, Tryz.underlying170, by kernel_rfl, by kernel_rfl, by kernel_rfl, ?_, by kernel_rfl, by kernel_rfl, ?_⟩⟩
  · simp [SV.wf, nilSlice]
  · exact ⟨_, _, _, rfl⟩
theorem ty172 : ∃ i d, TOk Tryz.prog 172 ⟨1, 8, .fn, .val .nilFunc⟩ i d := by
  refine ⟨Tryz.t172, _, ⟨by kernel_rfl, Tryz.underlying172, by kernel_rfl, by kernel_rfl, by kernel_rfl, ?_, by kernel_rfl, by kernel_rfl, ?_⟩⟩
  · simp [SV.wf, nilSlice]
  · exact ⟨_, _, _, rfl⟩
theorem ty173 : ∃ i d, TOk Tryz.prog 173 ⟨1, 8, .fn, .val .nilFunc⟩ i d := by
  refine ⟨Tryz.t173, _, ⟨by kernel_rfl, Tryz.underlying173, by kernel_rfl, by kernel_rfl, by kernel_rfl, ?_, by kernel_rfl, by kernel_rfl, ?_⟩⟩
  · simp [SV.wf, nilSlice]
  · exact ⟨_, _, _, rfl⟩
theorem ty174 : ∃ i d, TOk Tryz.prog 174 ⟨1, 8, .fn, .val .nilFunc⟩ i d := by
  refine ⟨Tryz.t174, _, ⟨by kernel_rfl, Tryz.underlying174, by kernel_rfl, by kernel_rfl, by kernel_rfl, ?_, by kernel_rfl, by kernel_rfl, ?_⟩⟩
  · simp [SV.wf, nilSlice]
  · exact ⟨_, _, _, rfl⟩
theorem ty175 : ∃ i d, TOk Tryz.prog 175 ⟨1, 8, .fn, .val .nilFunc⟩ i d := by
  refine ⟨Tryz.t175, _, ⟨by kernel_rfl, Tryz.underlying175, by kernel_rfl, by kernel_rfl, by kernel_rfl, ?_, by kernel_rfl, by kernel_rfl, ?_⟩⟩
  · simp [SV.wf, nilSlice]
  · exact ⟨_, _, _, rfl⟩
theorem ty176 : ∃ i d, TOk Tryz.prog 176 ⟨1, 8, .fn, .val .nilFunc⟩ i d := by
  refine ⟨Tryz.t176, _, ⟨by kernel_rfl, Tryz.underlying176, by kernel_rfl, by kernel_rfl, by kernel_rfl, ?_, by kernel_rfl, by kernel_rfl, ?_⟩⟩
  · simp [SV.wf, nilSlice]
  · exact ⟨_, _, _, rfl⟩
theorem ty178 : ∃ i d, TOk Tryz.prog 178 ⟨1, 8, .fn, .val .nilFunc⟩ i d := by
  refine ⟨Tryz.t178, _, ⟨by kernel_rfl, Tryz.underlying178, by kernel_rfl, by kernel_rfl, by kernel_rfl, ?_, by kernel_rfl, by kernel_rfl, ?_⟩⟩
  · simp [SV.wf, nilSlice]
  · exact ⟨_, _, _, rfl⟩
theorem ty179 : ∃ i d, TOk Tryz.prog 179 ⟨1, 8, .fn, .val .nilFunc⟩ i d := by
  refine ⟨Tryz.t179, _, ⟨by kernel_rfl, Tryz.underlying179, by kernel_rfl, by kernel_rfl, by kernel_rfl, ?_, by kernel_rfl, by kernel_rfl, ?_⟩⟩
  · simp [SV.wf, nilSlice]
  · exact ⟨_, _, _, rfl⟩
theorem ty180 : ∃ i d, TOk Tryz.prog 180 ⟨1, 8, .fn, .val .nilFunc⟩ i d := by
  refine ⟨Tryz.t180, _, ⟨by kernel_rfl, Tryz.underlying180, by kernel_rfl, by kernel_rfl, by kernel_rfl, ?_, by kernel_rfl, by kernel_rfl, ?_⟩⟩
  · simp [SV.wf, nilSlice]
  · exact ⟨_, _, _, rfl⟩
theorem ty181 : ∃ i d, TOk Tryz.prog 181 ⟨1, 8, .fn, .val .nilFunc⟩ i d := by
  refine ⟨Tryz.t181, _, ⟨by kernel_rfl, Tryz.underlying181, by kernel_rfl, by kernel_rfl, by kernel_rfl, ?_, by kernel_rfl, by kernel_rfl, ?_⟩⟩
  · simp [SV.wf, nilSlice]
  · exact ⟨_, _, _, rfl⟩
theorem ty182 : ∃ i d, TOk Tryz.prog 182 ⟨1, 8, .fn, .val .nilFunc⟩ i d := by
  refine ⟨Tryz.t182, _, ⟨by kernel_rfl, Tryz.underlying182, by kernel_rfl, by kernel_rfl, by kernel_rfl, ?_, by kernel_rfl, by kernel_rfl, ?_⟩⟩
  · simp [SV.wf, nilSlice]
  · exact ⟨_, _, _, rfl⟩
theorem ty183 : ∃ i d, TOk Tryz.prog 183 ⟨1, 24, .slice 5, nilSlice⟩ i d := by
  refine ⟨Tryz.t183, _, ⟨by kernel_rfl, Tryz.underlying183, by kernel_rfl, by kernel_rfl, by kernel_rfl, ?_, by kernel_rfl, by kernel_rfl, ?_⟩⟩
  · simp [SV.wf, nilSlice]
  · rfl
theorem ty184 : ∃ i d, TOk Tryz.prog 184 ⟨1, 8, .fn, .val .nilFunc⟩ i d := by
  refine ⟨Tryz.t184, _, ⟨by kernel_rfl, Tryz.underlying184, by kernel_rfl, by kernel_rfl, by kernel_rfl, ?_, by kernel_rfl, by kernel_rfl, ?_⟩⟩
  · simp [SV.wf, nilSlice]
  · exact ⟨_, _, _, rfl⟩
theorem ty185 : ∃ i d, TOk Tryz.prog 185 ⟨1, 8, .fn, .val .nilFunc⟩ i d := by
  refine ⟨Tryz.t185, _, ⟨by kernel_rfl, Tryz.underlying185, by kernel_rfl, by kernel_rfl, by kernel_rfl, ?_, by kernel_rfl, by kernel_rfl, ?_⟩⟩
  · simp [SV.wf, nilSlice]
  · exact ⟨_, _, _, rfl⟩
theorem ty186 : ∃ i d, TOk Tryz.prog 186 ⟨1, 8, .fn, .val .nilFunc⟩ i d := by
  refine ⟨Tryz.t186, _, ⟨by kernel_rfl, Tryz.underlying186, by kernel_rfl, by kernel_rfl, by kernel_rfl, ?_, by kernel_rfl, by kernel_rfl, ?_⟩⟩
  · simp [SV.wf, nilSlice]
  · exact ⟨_, _, _, rfl⟩
theorem ty187 : ∃ i d, TOk Tryz.prog 187 ⟨1, 8, .fn, .val .nilFunc⟩ i d := by
  refine ⟨Tryz.t187, _, ⟨by kernel_rfl, Tryz.underlying187, by kernel_rfl, by kernel_rfl, by kernel_rfl, ?_, by kernel_rfl, by kernel_rfl, ?_⟩⟩
  · simp [SV.wf, nilSlice]
  · exact ⟨_, _, _, rfl⟩
theorem ty188 : ∃ i d, TOk Tryz.prog 188 ⟨1, 8, .fn, .val .nilFunc⟩ i d := by
  refine ⟨Tryz.t188, _, ⟨by kernel_rfl, Tryz.underlying188, by kernel_rfl, by kernel_rfl, by kernel_rfl, ?_, by kernel_rfl, by kernel_rfl, ?_⟩⟩
  · simp [SV.wf, nilSlice]
  · exact ⟨_, _, _, rfl⟩
theorem ty189 : ∃ i d, TOk Tryz.prog 189 ⟨1, 8, .fn, .val .nilFunc⟩ i d := by
  refine ⟨Tryz.t189, _, ⟨by kernel_rfl, Tryz.underlying189, by kernel_rfl, by kernel_rfl, by kernel_rfl, ?_, by kernel_rfl, by kernel_rfl, ?_⟩⟩
  · simp [SV.wf, nilSlice]
  · exact ⟨_, _, _, rfl⟩
theorem ty190 : ∃ i d, TOk Tryz.prog 190 ⟨1, 8, .fn, .val .nilFunc⟩ i d := by
  refine ⟨Tryz.t190, _, ⟨by kernel_rfl, Tryz.underlying190, by kernel_rfl, by kernel_rfl, by kernel_rfl, ?_, by kernel_rfl, by kernel_rfl, ?_⟩⟩
  · simp [SV.wf, nilSlice]
  · exact ⟨_, _, _, rfl⟩
theorem ty191 : ∃ i d, TOk Tryz.prog 191 ⟨1, 24, .slice 193, nilSlice⟩ i d := by
  refine ⟨Tryz.t191, _, ⟨by kernel_rfl, Tryz.underlying191, by kernel_rfl, by kernel_rfl, by kernel_rfl, ?_, by kernel_rfl, by kernel_rfl, ?_⟩⟩
  · simp [SV.wf, nilSlice]
  · rfl
theorem ty192 : ∃ i d, TOk Tryz.prog 192 ⟨9, 9, .arr 9 5, .arr 9 1 fun _ => .int .u8 0⟩ i d := by
  refine ⟨Tryz.t192, _, ⟨by kernel_rfl, Tryz.underlying192, by kernel_rfl, by kernel_rfl, by kernel_rfl, ?_, by kernel_rfl, by kernel_rfl, ?_⟩⟩
  · simp [SV.wf, SV.wfA, SV.nt, nilSlice, SV.sz, SV.sz.szL]
  · rfl
theorem ty193 : ∃ i d, TOk Tryz.prog 193 ⟨9, 9, .arr 9 5, .arr 9 1 fun _ => .int .u8 0⟩ i d := by
  refine ⟨Tryz.t193, _, ⟨by kernel_rfl, Tryz.underlying193, by kernel_rfl, by kernel_rfl, by kernel_rfl, ?_, by kernel_rfl, by kernel_rfl, ?_⟩⟩
  · simp [SV.wf, SV.wfA, SV.nt, nilSlice, SV.sz, SV.sz.szL]
  · rfl
theorem ty195 : ∃ i d, TOk Tryz.prog 195 ⟨1, 8, .fn, .val .nilFunc⟩ i d := by
  refine ⟨Tryz.t195, _, ⟨by kernel_rfl, Tryz.underlying195, by kernel_rfl, by kernel_rfl, by kernel_rfl, ?_, by kernel_rfl, by kernel_rfl, ?_⟩⟩
  · simp [SV.wf, nilSlice]
  · exact ⟨_, _, _, rfl⟩
theorem ty196 : ∃ i d, TOk Tryz.prog 196 ⟨1, 24, .slice 30, nilSlice⟩ i d := by
  refine ⟨Tryz.t196, _, ⟨by kernel_rfl, Tryz.underlying196, by kernel_rfl, by kernel_rfl, by kernel_rfl, ?_, by kernel_rfl, by kernel_rfl, ?_⟩⟩
  · simp [SV.wf, nilSlice]
  · rfl
theorem ty197 : ∃ i d, TOk Tryz.prog 197 ⟨1, 8, .fn, .val .nilFunc⟩ i d := by
  refine ⟨Tryz.t197, _, ⟨by kernel_rfl, Tryz.underlying197, by kernel_rfl, by kernel_rfl, by kernel_rfl, ?_, by kernel_rfl, by kernel_rfl, ?_⟩⟩
  · simp [SV.wf, nilSlice]
  · exact ⟨_, _, _, rfl⟩
theorem ty198 : ∃ i d, TOk Tryz.prog 198 ⟨1, 8, .fn, .val .nilFunc⟩ i d := by
  refine ⟨Tryz.t198, _, ⟨by kernel_rfl, Tryz.underlying198, by kernel_rfl, by kernel_rfl, by kernel_rfl, ?_, by kernel_rfl, by kernel_rfl, ?_⟩⟩
  · simp [SV.wf, nilSlice]
  · exact ⟨_, _, _, rfl⟩
theorem ty199 : ∃ i d, TOk Tryz.prog 199 ⟨1, 8, .fn, .val .nilFunc⟩ i d := by
  refine ⟨Tryz.t199, _, ⟨by kernel_rfl, Tryz.underlying199, by kernel_rfl, by kernel_rfl, by kernel_rfl, ?_, by kernel_rfl, by kernel_rfl, ?_⟩⟩
  · simp [SV.wf, nilSlice]
  · exact ⟨_, _, _, rfl⟩
theorem ty200 : ∃ i d, TOk Tryz.prog 200 ⟨1, 8, .ptr 205, .val (.pointer none)⟩ i d := by
  refine ⟨Tryz.t200, _, ⟨by kernel_rfl, Tryz.underlying200, by kernel_rfl, by kernel_rfl, by kernel_rfl, ?_, by kernel_rfl, by kernel_rfl, ?_⟩⟩
  · simp [SV.wf, nilSlice]
  · rfl
theorem ty201 : ∃ i d, TOk Tryz.prog 201 ⟨1, 8, .fn, .val .nilFunc⟩ i d := by
  refine ⟨Tryz.t201, _, ⟨by kernel_rfl, Tryz.underlying201, by kernel_rfl, by kernel_rfl, by kernel_rfl, ?_, by kernel_rfl, by kernel_rfl, ?_⟩⟩
  · simp [SV.wf, nilSlice]
  · exact ⟨_, _, _, rfl⟩
theorem ty202 : ∃ i d, TOk Tryz.prog 202 ⟨255, 255, .arr 255 5, .arr 255 1 fun _ => .int .u8 0⟩ i d := by
  refine ⟨Tryz.t202, _, ⟨by kernel_rfl, Tryz.underlying202, by kernel_rfl, by kernel_rfl, by kernel_rfl, ?_, by kernel_rfl, by kernel_rfl, ?_⟩⟩
  · simp [SV.wf, SV.wfA, SV.nt, nilSlice, SV.sz, SV.sz.szL]
  · rfl
theorem ty203 : ∃ i d, TOk Tryz.prog 203 ⟨256, 2048, .arr 256 3, .arr 256 1 fun _ => .int .i64 0⟩ i d := by
  refine ⟨Tryz.t203, _, ⟨by kernel_rfl, Tryz.underlying203, by kernel_rfl, by kernel_rfl, by kernel_rfl, ?_, by kernel_rfl, by kernel_rfl, ?_⟩⟩
  · simp [SV.wf, SV.wfA, SV.nt, nilSlice, SV.sz, SV.sz.szL]
  · rfl
theorem ty204 : ∃ i d, TOk Tryz.prog 204 ⟨511, 2304, .struct [(0, 202), (255, 203)], .agg [.arr 255 1 fun _ => .int .u8 0, .arr 256 1 fun _ => .int .i64 0]⟩ i d := by
  refine ⟨Tryz.t204, _, ⟨by kernel_rfl, Tryz.underlying204, by kernel_rfl, by kernel_rfl, by kernel_rfl, ?_, by kernel_rfl, by kernel_rfl, ?_⟩⟩
  · simp [SV.wf, SV.wfA, SV.nt, nilSlice, SV.sz, SV.sz.szL]
  · exact kok_struct _ _ _ rfl (by kernel_rfl) (by kernel_rfl)
theorem ty205 : ∃ i d, TOk Tryz.prog 205 ⟨511, 2304, .struct [(0, 202), (255, 203)], .agg [.arr 255 1 fun _ => .int .u8 0, .arr 256 1 fun _ => .int .i64 0]⟩ i d := by
  refine ⟨Tryz.t205, _, ⟨by kernel_rfl, Tryz.underlying205, by kernel_rfl, by kernel_rfl, by kernel_rfl, ?_, by kernel_rfl, by kernel_rfl, ?_⟩⟩
  · simp [SV.wf, SV.wfA, SV.nt, nilSlice, SV.sz, SV.sz.szL]
  · exact kok_struct _ _ _ rfl (by kernel_rfl) (by kernel_rfl)
theorem ty206 : ∃ i d, TOk Tryz.prog 206 ⟨1, 8, .fn, .val .nilFunc⟩ i d := by
  refine ⟨Tryz.t206, _, ⟨by kernel_rfl, Tryz.underlying206, by kernel_rfl, by kernel_rfl, by kernel_rfl, ?_, by kernel_rfl, by kernel_rfl, ?_⟩⟩
  · simp [SV.wf, nilSlice]
  · exact ⟨_, _, _, rfl⟩
theorem ty207 : ∃ i d, TOk Tryz.prog 207 ⟨1, 8, .int .i64, .int .i64 0⟩ i d := by
  refine ⟨Tryz.t207, _, ⟨by kernel_rfl, Tryz.underlying207, by kernel_rfl, by kernel_rfl, by kernel_rfl, ?_, by kernel_rfl, by kernel_rfl, ?_⟩⟩
  · simp [SV.wf, nilSlice]
  · rfl
theorem ty209 : ∃ i d, TOk Tryz.prog 209 ⟨1, 8, .fn, .val .nilFunc⟩ i d := by
  refine ⟨Tryz.t209, _, ⟨by kernel_rfl, Tryz.underlying209, by kernel_rfl, by kernel_rfl, by kernel_rfl, ?_, by kernel_rfl, by kernel_rfl, ?_⟩⟩
  · simp [SV.wf, nilSlice]
  · exact ⟨_, _, _, rfl⟩
theorem ty210 : ∃ i d, TOk Tryz.prog 210 ⟨1, 8, .fn, .val .nilFunc⟩ i d := by
  refine ⟨Tryz.t210, _, ⟨by kernel_rfl, Tryz.underlying210, by kernel_rfl, by kernel_rfl, by kernel_rfl, ?_, by kernel_rfl, by kernel_rfl, ?_⟩⟩
  · simp [SV.wf, nilSlice]
  · exact ⟨_, _, _, rfl⟩
theorem ty211 : ∃ i d, TOk Tryz.prog 211 ⟨1, 8, .fn, .val .nilFunc⟩ i d := by
  refine ⟨Tryz.t211, _, ⟨by kernel_rfl, Tryz.underlying211, by kernel_rfl, by kernel_rfl, by kernel_rfl, ?_, by kernel_rfl, by kernel_rfl, ?_⟩⟩
  · simp [SV.wf, nilSlice]
  · exact ⟨_, _, _, rfl⟩
theorem ty213 : ∃ i d, TOk Tryz.prog 213 ⟨1, 8, .fn, .val .nilFunc⟩ i d := by
  refine ⟨Tryz.t213, _, ⟨by kernel_rfl, Tryz.underlying213, by kernel_rfl, by kernel_rfl, by kernel_rfl, ?_, by kernel_rfl, by kernel_rfl, ?_⟩⟩
  · simp [SV.wf, nilSlice]
  · exact ⟨_, _, _, rfl⟩
theorem ty214 : ∃ i d, TOk Tryz.prog 214 ⟨1, 8, .fn, .val .nilFunc⟩ i d := by
  refine ⟨Tryz.t214, _, ⟨by kernel_rfl, Tryz.underlying214, by kernel_rfl, by kernel_rfl, by kernel_rfl, ?_, by kernel_rfl, by kernel_rfl, ?_⟩⟩
  · simp [SV.wf, nilSlice]
  · exact ⟨_, _, _, rfl⟩
theorem ty215 : ∃ i d, TOk Tryz.prog 215 ⟨1, 8, .fn, .val .nilFunc⟩ i d := by
  refine ⟨Tryz.t215, _, ⟨by kernel_rfl, Tryz.underlying215, by kernel_rfl, by kernel_rfl, by kernel_rfl, ?_, by kernel_rfl, by kernel_rfl, ?_⟩⟩
  · simp [SV.wf, nilSlice]
  · exact ⟨_, _, _, rfl⟩
theorem ty216 : ∃ i d, TOk Tryz.prog 216 ⟨1, 8, .int .u64, .int .u64 0⟩ i d := by
  refine ⟨Tryz.t216, _, ⟨by kernel_rfl, Tryz.underlying216, by kernel_rfl, by kernel_rfl, by kernel_rfl, ?_, by kernel_rfl, by kernel_rfl, ?_⟩⟩
  · simp [SV.wf, nilSlice]
  · rfl
theorem ty217 : ∃ i d, TOk Tryz.prog 217 ⟨1, 8, .fn, .val .nilFunc⟩ i d := by
  refine ⟨Tryz.t217, _, ⟨by kernel_rfl, Tryz.underlying217, by kernel_rfl, by kernel_rfl, by kernel_rfl, ?_, by kernel_rfl, by kernel_rfl, ?_⟩⟩
  · simp [SV.wf, nilSlice]
  · exact ⟨_, _, _, rfl⟩
theorem ty218 : ∃ i d, TOk Tryz.prog 218 ⟨1, 8, .fn, .val .nilFunc⟩ i d := by
  refine ⟨Tryz.t218, _, ⟨by kernel_rfl, Tryz.underlying218, by kernel_rfl, by kernel_rfl, by kernel_rfl, ?_, by kernel_rfl, by kernel_rfl, ?_⟩⟩
  · simp [SV.wf, nilSlice]
  · exact ⟨_, _, _, rfl⟩
theorem ty219 : ∃ i d, TOk Tryz.prog 219 ⟨1, 8, .fn, .val .nilFunc⟩ i d := by
  refine ⟨Tryz.t219, _, ⟨by kernel_rfl, Tryz.underlying219, by kernel_rfl, by kernel_rfl, by kernel_rfl, ?_, by kernel_rfl, by kernel_rfl, ?_⟩⟩
  · simp [SV.wf, nilSlice]
  · exact ⟨_, _, _, rfl⟩
theorem ty220 : ∃ i d, TOk Tryz.prog 220 ⟨1, 8, .fn, .val .nilFunc⟩ i d := by
  refine ⟨Tryz.t220, _, ⟨by kernel_rfl, Tryz.underlying220, by kernel_rfl, by kernel_rfl, by kernel_rfl, ?_, by kernel_rfl, by kernel_rfl, ?_⟩⟩
  · simp [SV.wf, nilSlice]
  · exact ⟨_, _, _, rfl⟩
theorem ty221 : ∃ i d, TOk Tryz.prog 221 ⟨0, 0, .struct [], .agg []⟩ i d := by
  refine ⟨Tryz.t221, _, ⟨by kernel_rfl, Tryz.underlying221, by kernel_rfl, by kernel_rfl, by kernel_rfl, ?_, by kernel_rfl, by kernel_rfl, ?_⟩⟩
  · simp [SV.wf, SV.wfA, SV.nt, nilSlice, SV.sz, SV.sz.szL]
  · exact kok_struct _ _ _ rfl (by kernel_rfl) (by kernel_rfl)
theorem ty222 : ∃ i d, TOk Tryz.prog 222 ⟨0, 0, .struct [], .agg []⟩ i d := by
  refine ⟨Tryz.t222, _, ⟨by kernel_rfl, Tryz.underlying222, by kernel_rfl, by kernel_rfl, by kernel_rfl, ?_, by kernel_rfl, by kernel_rfl, ?_⟩⟩
  · simp [SV.wf, SV.wfA, SV.nt, nilSlice, SV.sz, SV.sz.szL]
  · exact kok_struct _ _ _ rfl (by kernel_rfl) (by kernel_rfl)
theorem ty223 : ∃ i d, TOk Tryz.prog 223 ⟨1, 8, .fn, .val .nilFunc⟩ i d := by
  refine ⟨Tryz.t223, _, ⟨by kernel_rfl, Tryz.underlying223, by kernel_rfl, by kernel_rfl, by kernel_rfl, ?_, by kernel_rfl, by kernel_rfl, ?_⟩⟩
  · simp [SV.wf, nilSlice]
  · exact ⟨_, _, _, rfl⟩
theorem ty224 : ∃ i d, TOk Tryz.prog 224 ⟨256, 256, .arr 256 5, .arr 256 1 fun _ => .int .u8 0⟩ i d := by
  refine ⟨Tryz.t224, _, ⟨by kernel_rfl, Tryz.underlying224, by kernel_rfl, by kernel_rfl, by kernel_rfl, ?_, by kernel_rfl, by kernel_rfl, ?_⟩⟩
  · simp [SV.wf, SV.wfA, SV.nt, nilSlice, SV.sz, SV.sz.szL]
  · rfl
theorem ty225 : ∃ i d, TOk Tryz.prog 225 ⟨2, 2, .struct [(0, 5), (1, 5)], .agg [.int .u8 0, .int .u8 0]⟩ i d := by
  refine ⟨Tryz.t225, _, ⟨by kernel_rfl, Tryz.underlying225, by kernel_rfl, by kernel_rfl, by kernel_rfl, ?_, by kernel_rfl, by kernel_rfl, ?_⟩⟩
  · simp [SV.wf, SV.wfA, SV.nt, nilSlice, SV.sz, SV.sz.szL]
  · exact kok_struct _ _ _ rfl (by kernel_rfl) (by kernel_rfl)
theorem ty226 : ∃ i d, TOk Tryz.prog 226 ⟨2, 2, .struct [(0, 5), (1, 5)], .agg [.int .u8 0, .int .u8 0]⟩ i d := by
  refine ⟨Tryz.t226, _, ⟨by kernel_rfl, Tryz.underlying226, by kernel_rfl, by kernel_rfl, by kernel_rfl, ?_, by kernel_rfl, by kernel_rfl, ?_⟩⟩
  · simp [SV.wf, SV.wfA, SV.nt, nilSlice, SV.sz, SV.sz.szL]
  · exact kok_struct _ _ _ rfl (by kernel_rfl) (by kernel_rfl)
theorem ty227 : ∃ i d, TOk Tryz.prog 227 ⟨32, 32, .arr 16 226, .arr 16 2 fun _ => .agg [.int .u8 0, .int .u8 0]⟩ i d := by
  refine ⟨Tryz.t227, _, ⟨by kernel_rfl, Tryz.underlying227, by kernel_rfl, by kernel_rfl, by kernel_rfl, ?_, by kernel_rfl, by kernel_rfl, ?_⟩⟩
  · simp [SV.wf, SV.wfA, SV.nt, nilSlice, SV.sz, SV.sz.szL]
  · rfl
theorem ty228 : ∃ i d, TOk Tryz.prog 228 ⟨1, 8, .fn, .val .nilFunc⟩ i d := by
  refine ⟨Tryz.t228, _, ⟨by kernel_rfl, Tryz.underlying228, by kernel_rfl, by kernel_rfl, by kernel_rfl, ?_, by kernel_rfl, by kernel_rfl, ?_⟩⟩
  · simp [SV.wf, nilSlice]
  · exact ⟨_, _, _, rfl⟩
theorem ty229 : ∃ i d, TOk Tryz.prog 229 ⟨1, 8, .fn, .val .nilFunc⟩ i d := by
  refine ⟨Tryz.t229, _, ⟨by kernel_rfl, Tryz.underlying229, by kernel_rfl, by kernel_rfl, by kernel_rfl, ?_, by kernel_rfl, by kernel_rfl, ?_⟩⟩
  · simp [SV.wf, nilSlice]
  · exact ⟨_, _, _, rfl⟩
theorem ty230 : ∃ i d, TOk Tryz.prog 230 ⟨1, 8, .int .u64, .int .u64 0⟩ i d := by
  refine ⟨Tryz.t230, _, ⟨by kernel_rfl, Tryz.underlying230, by kernel_rfl, by kernel_rfl, by kernel_rfl, ?_, by kernel_rfl, by kernel_rfl, ?_⟩⟩
  · simp [SV.wf, nilSlice]
  · rfl
theorem ty231 : ∃ i d, TOk Tryz.prog 231 ⟨1, 8, .fn, .val .nilFunc⟩ i d := by
  refine ⟨Tryz.t231, _, ⟨by kernel_rfl, Tryz.underlying231, by kernel_rfl, by kernel_rfl, by kernel_rfl, ?_, by kernel_rfl, by kernel_rfl, ?_⟩⟩
  · simp [SV.wf, nilSlice]
  · exact ⟨_, _, _, rfl⟩
theorem ty232 : ∃ i d, TOk Tryz.prog 232 ⟨1, 8, .fn, .val .nilFunc⟩ i d := by
  refine ⟨Tryz.t232, _, ⟨by kernel_rfl, Tryz.underlying232, by kernel_rfl, by kernel_rfl, by kernel_rfl, ?_, by kernel_rfl, by kernel_rfl, ?_⟩⟩
  · simp [SV.wf, nilSlice]
  · exact ⟨_, _, _, rfl⟩
theorem ty233 : ∃ i d, TOk Tryz.prog 233 ⟨1, 8, .fn, .val .nilFunc⟩ i d := by
  refine ⟨Tryz.t233, _, ⟨by kernel_rfl, Tryz.underlying233, by kernel_rfl, by kernel_rfl, by kernel_rfl, ?_, by kernel_rfl, by kernel_rfl, ?_⟩⟩
  · simp [SV.wf, nilSlice]
  · exact ⟨_, _, _, rfl⟩
theorem ty234 : ∃ i d, TOk Tryz.prog 234 ⟨1, 8, .ptr 3, .val (.pointer none)⟩ i d := by
  refine ⟨Tryz.t234, _, ⟨by kernel_rfl, Tryz.underlying234, by kernel_rfl, by kernel_rfl, by kernel_rfl, ?_, by kernel_rfl, by kernel_rfl, ?_⟩⟩
  · simp [SV.wf, nilSlice]
  · rfl
theorem ty235 : ∃ i d, TOk Tryz.prog 235 ⟨1, 8, .fn, .val .nilFunc⟩ i d := by
  refine ⟨Tryz.t235, _, ⟨by kernel_rfl, Tryz.underlying235, by kernel_rfl, by kernel_rfl, by kernel_rfl, ?_, by kernel_rfl, by kernel_rfl, ?_⟩⟩
  · simp [SV.wf, nilSlice]
  · exact ⟨_, _, _, rfl⟩
theorem ty236 : ∃ i d, TOk Tryz.prog 236 ⟨1, 8, .fn, .val .nilFunc⟩ i d := by
  refine ⟨Tryz.t236, _, ⟨by kernel_rfl, Tryz.underlying236, by kernel_rfl, by kernel_rfl, by kernel_rfl, ?_, by kernel_rfl, by kernel_rfl, ?_⟩⟩
  · simp [SV.wf, nilSlice]
  · exact ⟨_, _, _, rfl⟩
theorem ty237 : ∃ i d, TOk Tryz.prog 237 ⟨1, 8, .fn, .val .nilFunc⟩ i d := by
  refine ⟨Tryz.t237, _, ⟨by kernel_rfl, Tryz.underlying237, by kernel_rfl, by kernel_rfl, by kernel_rfl, ?_, by kernel_rfl, by kernel_rfl, ?_⟩⟩
  · simp [SV.wf, nilSlice]
  · exact ⟨_, _, _, rfl⟩
theorem ty238 : ∃ i d, TOk Tryz.prog 238 ⟨1, 8, .fn, .val .nilFunc⟩ i d := by
  refine ⟨Tryz.t238, _, ⟨by kernel_rfl, Tryz.underlying238, by kernel_rfl, by kernel_rfl, by kernel_rfl, ?_, by kernel_rfl, by kernel_rfl, ?_⟩⟩
  · simp [SV.wf, nilSlice]
  · exact ⟨_, _, _, rfl⟩
theorem ty239 : ∃ i d, TOk Tryz.prog 239 ⟨1, 8, .fn, .val .nilFunc⟩ i d := by
  refine ⟨Tryz.t239, _, ⟨by kernel_rfl, Tryz.underlying239, by kernel_rfl, by kernel_rfl, by kernel_rfl, ?_, by kernel_rfl, by kernel_rfl, ?_⟩⟩
  · simp [SV.wf, nilSlice]
  · exact ⟨_, _, _, rfl⟩
theorem ty240 : ∃ i d, TOk Tryz.prog 240 ⟨1, 8, .fn, .val .nilFunc⟩ i d := by
  refine ⟨Tryz.t240, _, ⟨by kernel_rfl, Tryz.underlying240, by kernel_rfl, by kernel_rfl, by kernel_rfl, ?_, by kernel_rfl, by kernel_rfl, ?_⟩⟩
  · simp [SV.wf, nilSlice]
  · exact ⟨_, _, _, rfl⟩
theorem ty241 : ∃ i d, TOk Tryz.prog 241 ⟨1, 8, .ptr 230, .val (.pointer none)⟩ i d := by
  refine ⟨Tryz.t241, _, ⟨by kernel_rfl, Tryz.underlying241, by kernel_rfl, by kernel_rfl, by kernel_rfl, ?_, by kernel_rfl, by kernel_rfl, ?_⟩⟩
  · simp [SV.wf, nilSlice]
  · rfl
theorem ty243 : ∃ i d, TOk Tryz.prog 243 ⟨1, 8, .fn, .val .nilFunc⟩ i d := by
  refine ⟨Tryz.t243, _, ⟨by kernel_rfl, Tryz.underlying243, by kernel_rfl, by kernel_rfl, by kernel_rfl, ?_, by kernel_rfl, by kernel_rfl, ?_⟩⟩
  · simp [SV.wf, nilSlice]
  · exact ⟨_, _, _, rfl⟩
theorem ty244 : ∃ i d, TOk Tryz.prog 244 ⟨1, 8, .fn, .val .nilFunc⟩ i d := by
  refine ⟨Tryz.t244, _, ⟨by kernel_rfl, Tryz.underlying244, by kernel_rfl, by kernel_rfl, by kernel_rfl, ?_, by kernel_rfl, by kernel_rfl, ?_⟩⟩
  · simp [SV.wf, nilSlice]
  · exact ⟨_, _, _, rfl⟩
theorem ty245 : ∃ i d, TOk Tryz.prog 245 ⟨1, 8, .ptr 193, .val (.pointer none)⟩ i d := by
  refine ⟨Tryz.t245, _, ⟨by kernel_rfl, Tryz.underlying245, by kernel_rfl, by kernel_rfl, by kernel_rfl, ?_, by kernel_rfl, by kernel_rfl, ?_⟩⟩
  · simp [SV.wf, nilSlice]
  · rfl
theorem ty246 : ∃ i d, TOk Tryz.prog 246 ⟨4, 40, .struct [(0, 17), (1, 17), (2, 17), (3, 9)], .agg [.val (.pointer none), .val (.pointer none), .val (.pointer none), .str []]⟩ i d := by
  refine ⟨Tryz.t246, _, ⟨by kernel_rfl, Tryz.underlying246, by kernel_rfl, by kernel_rfl, by kernel_rfl, ?_, by kernel_rfl, by kernel_rfl, ?_⟩⟩
  · simp [SV.wf, SV.wfA, SV.nt, nilSlice, SV.sz, SV.sz.szL]
  · exact kok_struct _ _ _ rfl (by kernel_rfl) (by kernel_rfl)
theorem ty247 : ∃ i d, TOk Tryz.prog 247 ⟨4, 40, .struct [(0, 17), (1, 17), (2, 17), (3, 9)], .agg [.val (.pointer none), .val (.pointer none), .val (.pointer none), .str []]⟩ i d := by
  refine ⟨Tryz.t247, _, ⟨by kernel_rfl, Tryz.underlying247, by kernel_rfl, by kernel_rfl, by kernel_rfl, ?_, by kernel_rfl, by kernel_rfl, ?_⟩⟩
  · simp [SV.wf, SV.wfA, SV.nt, nilSlice, SV.sz, SV.sz.szL]
  · exact kok_struct _ _ _ rfl (by kernel_rfl) (by kernel_rfl)
theorem ty248 : ∃ i d, TOk Tryz.prog 248 ⟨0, 0, .arr 0 16, .arr 0 1 fun _ => .val (.pointer none)⟩ i d := by
  refine ⟨Tryz.t248, _, ⟨by kernel_rfl, Tryz.underlying248, by kernel_rfl, by kernel_rfl, by kernel_rfl, ?_, by kernel_rfl, by kernel_rfl, ?_⟩⟩
  · simp [SV.wf, SV.wfA, SV.nt, nilSlice, SV.sz, SV.sz.szL]
  · rfl
theorem ty251 : ∃ i d, TOk Tryz.prog 251 ⟨1, 1, .int .u8, .int .u8 0⟩ i d := by
  refine ⟨Tryz.t251, _, ⟨by kernel_rfl, Tryz.underlying251, by kernel_rfl, by kernel_rfl, by kernel_rfl, ?_, by kernel_rfl, by kernel_rfl, ?_⟩⟩
  · simp [SV.wf, nilSlice]
  · rfl
theorem ty252 : ∃ i d, TOk Tryz.prog 252 ⟨1, 1, .int .u8, .int .u8 0⟩ i d := by
  refine ⟨Tryz.t252, _, ⟨by kernel_rfl, Tryz.underlying252, by kernel_rfl, by kernel_rfl, by kernel_rfl, ?_, by kernel_rfl, by kernel_rfl, ?_⟩⟩
  · simp [SV.wf, nilSlice]
  · rfl
theorem ty253 : ∃ i d, TOk Tryz.prog 253 ⟨1, 8, .fn, .val .nilFunc⟩ i d := by
  refine ⟨Tryz.t253, _, ⟨by kernel_rfl, Tryz.underlying253, by kernel_rfl, by kernel_rfl, by kernel_rfl, ?_, by kernel_rfl, by kernel_rfl, ?_⟩⟩
  · simp [SV.wf, nilSlice]
  · exact ⟨_, _, _, rfl⟩
theorem ty254 : ∃ i d, TOk Tryz.prog 254 ⟨1, 8, .ptr 5, .val (.pointer none)⟩ i d := by
  refine ⟨Tryz.t254, _, ⟨by kernel_rfl, Tryz.underlying254, by kernel_rfl, by kernel_rfl, by kernel_rfl, ?_, by kernel_rfl, by kernel_rfl, ?_⟩⟩
  · simp [SV.wf, nilSlice]
  · rfl
theorem ty255 : ∃ i d, TOk Tryz.prog 255 ⟨1, 4, .int .i32, .int .i32 0⟩ i d := by
  refine ⟨Tryz.t255, _, ⟨by kernel_rfl, Tryz.underlying255, by kernel_rfl, by kernel_rfl, by kernel_rfl, ?_, by kernel_rfl, by kernel_rfl, ?_⟩⟩
  · simp [SV.wf, nilSlice]
  · rfl
theorem ty256 : ∃ i d, TOk Tryz.prog 256 ⟨1, 4, .int .i32, .int .i32 0⟩ i d := by
  refine ⟨Tryz.t256, _, ⟨by kernel_rfl, Tryz.underlying256, by kernel_rfl, by kernel_rfl, by kernel_rfl, ?_, by kernel_rfl, by kernel_rfl, ?_⟩⟩
  · simp [SV.wf, nilSlice]
  · rfl
theorem ty257 : ∃ i d, TOk Tryz.prog 257 ⟨11, 48, .struct [(0, 12), (1, 12), (2, 117), (3, 251), (4, 5), (5, 5), (6, 252), (7, 253), (8, 254), (9, 255), (10, 256)], .agg [.int .u64 0, .int .u64 0, .int .u32 0, .int .u8 0, .int .u8 0, .int .u8 0, .int .u8 0, .val .nilFunc, .val (.pointer none), .int .i32 0, .int .i32 0]⟩ i d := by
  refine ⟨Tryz.t257, _, ⟨by kernel_rfl, Tryz.underlying257, by kernel_rfl, by kernel_rfl, by kernel_rfl, ?_, by kernel_rfl, by kernel_rfl, ?_⟩⟩
  · simp [SV.wf, SV.wfA, SV.nt, nilSlice, SV.sz, SV.sz.szL]
  · exact kok_struct _ _ _ rfl (by kernel_rfl) (by kernel_rfl)
theorem ty258 : ∃ i d, TOk Tryz.prog 258 ⟨11, 48, .struct [(0, 12), (1, 12), (2, 117), (3, 251), (4, 5), (5, 5), (6, 252), (7, 253), (8, 254), (9, 255), (10, 256)], .agg [.int .u64 0, .int .u64 0, .int .u32 0, .int .u8 0, .int .u8 0, .int .u8 0, .int .u8 0, .val .nilFunc, .val (.pointer none), .int .i32 0, .int .i32 0]⟩ i d := by
  refine ⟨Tryz.t258, _, ⟨by kernel_rfl, Tryz.underlying258, by kernel_rfl, by kernel_rfl, by kernel_rfl, ?_, by kernel_rfl, by kernel_rfl, ?_⟩⟩
  · simp [SV.wf, SV.wfA, SV.nt, nilSlice, SV.sz, SV.sz.szL]
  · exact kok_struct _ _ _ rfl (by kernel_rfl) (by kernel_rfl)
theorem ty259 : ∃ i d, TOk Tryz.prog 259 ⟨1, 8, .fn, .val .nilFunc⟩ i d := by
  refine ⟨Tryz.t259, _, ⟨by kernel_rfl, Tryz.underlying259, by kernel_rfl, by kernel_rfl, by kernel_rfl, ?_, by kernel_rfl, by kernel_rfl, ?_⟩⟩
  · simp [SV.wf, nilSlice]
  · exact ⟨_, _, _, rfl⟩
theorem tenv_ok : ∀ t ti, tenv t = some ti → ∃ i d, TOk Tryz.prog t ti i d := by
  intro t ti h
  unfold tenv at h
  split at h
  · injection h with h; subst h; exact ty1
  · injection h with h; subst h; exact ty2
  · injection h with h; subst h; exact ty3
  · injection h with h; subst h; exact ty4
  · injection h with h; subst h; exact ty5
  · injection h with h; subst h; exact ty6
  · injection h with h; subst h; exact ty7
  · injection h with h; subst h; exact ty8
  · injection h with h; subst h; exact ty9
  · injection h with h; subst h; exact ty10
  · injection h with h; subst h; exact ty11
  · injection h with h; subst h; exact ty12
  · injection h with h; subst h; exact ty13
  · injection h with h; subst h; exact ty14
  · injection h with h; subst h; exact ty15
  · injection h with h; subst h; exact ty16
  · injection h with h; subst h; exact ty17
  · injection h with h; subst h; exact ty18
  · injection h with h; subst h; exact ty19
  · injection h with h; subst h; exact ty20
  · injection h with h; subst h; exact ty21
  · injection h with h; subst h; exact ty22
  · injection h with h; subst h; exact ty23
  · injection h with h; subst h; exact ty25
  · injection h with h; subst h; exact ty27
  · injection h with h; subst h; exact ty28
  · injection h with h; subst h; exact ty29
  · injection h with h; subst h; exact ty30
  · injection h with h; subst h; exact ty31
  · injection h with h; subst h; exact ty32
  · injection h with h; subst h; exact ty33
  · injection h with h; subst h; exact ty34
  · injection h with h; subst h; exact ty35
  · injection h with h; subst h; exact ty36
  · injection h with h; subst h; exact ty38
  · injection h with h; subst h; exact ty39
  · injection h with h; subst h; exact ty41
  · injection h with h; subst h; exact ty42
  · injection h with h; subst h; exact ty43
  · injection h with h; subst h; exact ty44
  · injection h with h; subst h; exact ty46
  · injection h with h; subst h; exact ty47
  · injection h with h; subst h; exact ty48
  · injection h with h; subst h; exact ty49
  · injection h with h; subst h; exact ty50
  · injection h with h; subst h; exact ty51
  · injection h with h; subst h; exact ty52
  · injection h with h; subst h; exact ty53
  · injection h with h; subst h; exact ty54
  · injection h with h; subst h; exact ty55
  · injection h with h; subst h; exact ty56
  · injection h with h; subst h; exact ty57
  · injection h with h; subst h; exact ty58
  · injection h with h; subst h; exact ty59
  · injection h with h; subst h; exact ty60
  · injection h with h; subst h; exact ty61
  · injection h with h; subst h; exact ty62
  · injection h with h; subst h; exact ty63
  · injection h with h; subst h; exact ty64
  · injection h with h; subst h; exact ty65
  · injection h with h; subst h; exact ty66
  · injection h with h; subst h; exact ty67
  · injection h with h; subst h; exact ty68
  · injection h with h; subst h; exact ty69
  · injection h with h; subst h; exact ty70
  · injection h with h; subst h; exact ty71
  · injection h with h; subst h; exact ty72
  · injection h with h; subst h; exact ty73
  · injection h with h; subst h; exact ty74
  · injection h with h; subst h; exact ty75
  · injection h with h; subst h; exact ty76
  · injection h with h; subst h; exact ty77
  · injection h with h; subst h; exact ty79
  · injection h with h; subst h; exact ty81
  · injection h with h; subst h; exact ty82
  · injection h with h; subst h; exact ty83
  · injection h with h; subst h; exact ty85
  · injection h with h; subst h; exact ty86
  · injection h with h; subst h; exact ty87
  · injection h with h; subst h; exact ty88
  · injection h with h; subst h; exact ty89
  · injection h with h; subst h; exact ty91
  · injection h with h; subst h; exact ty92
  · injection h with h; subst h; exact ty93
  · injection h with h; subst h; exact ty95
  · injection h with h; subst h; exact ty96
  · injection h with h; subst h; exact ty97
  · injection h with h; subst h; exact ty99
  · injection h with h; subst h; exact ty101
  · injection h with h; subst h; exact ty102
  · injection h with h; subst h; exact ty103
  · injection h with h; subst h; exact ty104
  · injection h with h; subst h; exact ty105
  · injection h with h; subst h; exact ty106
  · injection h with h; subst h; exact ty107
  · injection h with h; subst h; exact ty108
  · injection h with h; subst h; exact ty109
  · injection h with h; subst h; exact ty110
  · injection h with h; subst h; exact ty111
  · injection h with h; subst h; exact ty112
  · injection h with h; subst h; exact ty113
  · injection h with h; subst h; exact ty114
  · injection h with h; subst h; exact ty116
  · injection h with h; subst h; exact ty117
  · injection h with h; subst h; exact ty118
  · injection h with h; subst h; exact ty119
  · injection h with h; subst h; exact ty120
  · injection h with h; subst h; exact ty121
  · injection h with h; subst h; exact ty122
  · injection h with h; subst h; exact ty123
  · injection h with h; subst h; exact ty124
  · injection h with h; subst h; exact ty125
  · injection h with h; subst h; exact ty126
  · injection h with h; subst h; exact ty127
  · injection h with h; subst h; exact ty128
  · injection h with h; subst h; exact ty129
  · injection h with h; subst h; exact ty130
  · injection h with h; subst h; exact ty131
  · injection h with h; subst h; exact ty132
  · injection h with h; subst h; exact ty133
  · injection h with h; subst h; exact ty134
  · injection h with h; subst h; exact ty135
  · injection h with h; subst h; exact ty136
  · injection h with h; subst h; exact ty137
  · injection h with h; subst h; exact ty138
  · injection h with h; subst h; exact ty139
  · injection h with h; subst h; exact ty140
  · injection h with h; subst h; exact ty141
  · injection h with h; subst h; exact ty142
  · injection h with h; subst h; exact ty143
  · injection h with h; subst h; exact ty144
  · injection h with h; subst h; exact ty145
  · injection h with h; subst h; exact ty146
  · injection h with h; subst h; exact ty147
  · injection h with h; subst h; exact ty148
  · injection h with h; subst h; exact ty149
  · injection h with h; subst h; exact ty151
  · injection h with h; subst h; exact ty152
  · injection h with h; subst h; exact ty153
  · injection h with h; subst h; exact ty154
  · injection h with h; subst h; exact ty155
  · injection h with h; subst h; exact ty156
  · injection h with h; subst h; exact ty157
  · injection h with h; subst h; exact ty158
  · injection h with h; subst h; exact ty159
  · injection h with h; subst h; exact ty160
  · injection h with h; subst h; exact ty162
  · injection h with h; subst h; exact ty163
  · injection h with h; subst h; exact ty164
  · injection h with h; subst h; exact ty165
  · injection h with h; subst h; exact ty166
  · injection h with h; subst h; exact ty167
  · injection h with h; subst h; exact ty168
  · injection h with h; subst h; exact ty170
  · injection h with h; subst h; exact ty172
  · injection h with h; subst h; exact ty173
  · injection h with h; subst h; exact ty174
  · injection h with h; subst h; exact ty175
  · injection h with h; subst h; exact ty176
  · injection h with h; subst h; exact ty178
  · injection h with h; subst h; exact ty179
  · injection h with h; subst h; exact ty180
  · injection h with h; subst h; exact ty181
  · injection h with h; subst h; exact ty182
  · injection h with h; subst h; exact ty183
  · injection h with h; subst h; exact ty184
  · injection h with h; subst h; exact ty185
  · injection h with h; subst h; exact ty186
  · injection h with h; subst h; exact ty187
  · injection h with h; subst h; exact ty188
  · injection h with h; subst h; exact ty189
  · injection h with h; subst h; exact ty190
  · injection h with h; subst h; exact ty191
  · injection h with h; subst h; exact ty192
  · injection h with h; subst h; exact ty193
  · injection h with h; subst h; exact ty195
  · injection h with h; subst h; exact ty196
  · injection h with h; subst h; exact ty197
  · injection h with h; subst h; exact ty198
  · injection h with h; subst h; exact ty199
  · injection h with h; subst h; exact ty200
  · injection h with h; subst h; exact ty201
  · injection h with h; subst h; exact ty202
  · injection h with h; subst h; exact ty203
  · injection h with h; subst h; exact ty204
  · injection h with h; subst h; exact ty205
  · injection h with h; subst h; exact ty206
  · injection h with h; subst h; exact ty207
  · injection h with h; subst h; exact ty209
  · injection h with h; subst h; exact ty210
  · injection h with h; subst h; exact ty211
  · injection h with h; subst h; exact ty213
  · injection h with h; subst h; exact ty214
  · injection h with h; subst h; exact ty215
  · injection h with h; subst h; exact ty216
  · injection h with h; subst h; exact ty217
  · injection h with h; subst h; exact ty218
  · injection h with h; subst h; exact ty219
  · injection h with h; subst h; exact ty220
  · injection h with h; subst h; exact ty221
  · injection h with h; subst h; exact ty222
  · injection h with h; subst h; exact ty223
  · injection h with h; subst h; exact ty224
  · injection h with h; subst h; exact ty225
  · injection h with h; subst h; exact ty226
  · injection h with h; subst h; exact ty227
  · injection h with h; subst h; exact ty228
  · injection h with h; subst h; exact ty229
  · injection h with h; subst h; exact ty230
  · injection h with h; subst h; exact ty231
  · injection h with h; subst h; exact ty232
  · injection h with h; subst h; exact ty233
  · injection h with h; subst h; exact ty234
  · injection h with h; subst h; exact ty235
  · injection h with h; subst h; exact ty236
  · injection h with h; subst h; exact ty237
  · injection h with h; subst h; exact ty238
  · injection h with h; subst h; exact ty239
  · injection h with h; subst h; exact ty240
  · injection h with h; subst h; exact ty241
  · injection h with h; subst h; exact ty243
  · injection h with h; subst h; exact ty244
  · injection h with h; subst h; exact ty245
  · injection h with h; subst h; exact ty246
  · injection h with h; subst h; exact ty247
  · injection h with h; subst h; exact ty248
  · injection h with h; subst h; exact ty251
  · injection h with h; subst h; exact ty252
  · injection h with h; subst h; exact ty253
  · injection h with h; subst h; exact ty254
  · injection h with h; subst h; exact ty255
  · injection h with h; subst h; exact ty256
  · injection h with h; subst h; exact ty257
  · injection h with h; subst h; exact ty258
  · injection h with h; subst h; exact ty259
  · cases h
end Eng
