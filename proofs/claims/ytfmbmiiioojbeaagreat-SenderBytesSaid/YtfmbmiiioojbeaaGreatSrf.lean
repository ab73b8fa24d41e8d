/-
  OWN WORK. slices.SortFunc of spans: the shelf's contract at this program.
-/
import Derived.Shelf.SlSortCmp.WholeK
import Derived.Shelf.SlicesG.Cmp
import Derived.Test.YtfmbmiiioojbeaaGreatTy
namespace Srf
open Go Go.Proofs Go.Shelf
set_option maxRecDepth 100000
set_option maxHeartbeats 4000000

def ren : Ren := ⟨fun
  | 6 => 52
  | 14 => 79
  | 15 => 80
  | 20 => 121
  | 21 => 122
  | 22 => 123
  | 23 => 124
  | 24 => 125
  | 25 => 126
  | 26 => 127
  | 27 => 128
  | 28 => 129
  | 29 => 130
  | 46 => 147
  | 47 => 148
  | 48 => 149
  | 49 => 150
  | 50 => 151
  | 57 => 164
  | n => n, fun
  | 0 => 0
  | 3 => 3
  | 4 => 4
  | 5 => 5
  | 9 => 9
  | 22 => 77
  | 24 => 112
  | 25 => 114
  | 39 => 133
  | 45 => 164
  | 46 => 165
  | 50 => 169
  | 53 => 32
  | 55 => 173
  | 66 => 188
  | 70 => 192
  | 76 => 203
  | 77 => 147
  | n => n, fun n => n⟩
theorem lays : SlLaysF0.n6 Tryz.prog ren := {
  mixed := by kernel_rfl
  f6 := ⟨Tryz.f52.name, by kernel_rfl, (Tryz.func52).trans (by kernel_rfl)⟩
  f14 := ⟨Tryz.f79.name, by kernel_rfl, (Tryz.func79).trans (by kernel_rfl)⟩
  f15 := (Tryz.func80).trans (by kernel_rfl)
  f20 := ⟨Tryz.f121.name, by kernel_rfl, (Tryz.func121).trans (by kernel_rfl)⟩
  f21 := ⟨Tryz.f122.name, by kernel_rfl, (Tryz.func122).trans (by kernel_rfl)⟩
  f22 := ⟨Tryz.f123.name, by kernel_rfl, (Tryz.func123).trans (by kernel_rfl)⟩
  f23 := ⟨Tryz.f124.name, by kernel_rfl, (Tryz.func124).trans (by kernel_rfl)⟩
  f24 := ⟨Tryz.f125.name, by kernel_rfl, (Tryz.func125).trans (by kernel_rfl)⟩
  f25 := ⟨Tryz.f126.name, by kernel_rfl, (Tryz.func126).trans (by kernel_rfl)⟩
  f26 := ⟨Tryz.f127.name, by kernel_rfl, (Tryz.func127).trans (by kernel_rfl)⟩
  f27 := ⟨Tryz.f128.name, by kernel_rfl, (Tryz.func128).trans (by kernel_rfl)⟩
  f28 := (Tryz.func129).trans (by kernel_rfl)
  f29 := (Tryz.func130).trans (by kernel_rfl)
  f46 := ⟨Tryz.f147.name, by kernel_rfl, (Tryz.func147).trans (by kernel_rfl)⟩
  f47 := (Tryz.func148).trans (by kernel_rfl)
  f48 := (Tryz.func149).trans (by kernel_rfl)
  f49 := ⟨Tryz.f150.name, by kernel_rfl, (Tryz.func150).trans (by kernel_rfl)⟩
  f50 := ⟨Tryz.f151.name, by kernel_rfl, (Tryz.func151).trans (by kernel_rfl)⟩
  f57 := ⟨Tryz.f164.name, by kernel_rfl, (Tryz.func164).trans (by kernel_rfl)⟩
  t0 := Tryz.underlying0
  a0 := Tryz.isAgg0
  z0 := Tryz.sizeOf0
  v0 := Tryz.zeroValue0
  t3 := Tryz.underlying3
  a3 := Tryz.isAgg3
  z3 := Tryz.sizeOf3
  v3 := Tryz.zeroValue3
  t4 := Tryz.underlying4
  a4 := Tryz.isAgg4
  z4 := Tryz.sizeOf4
  v4 := Tryz.zeroValue4
  t5 := Tryz.underlying5
  a5 := Tryz.isAgg5
  z5 := Tryz.sizeOf5
  v5 := Tryz.zeroValue5
  t9 := Tryz.underlying9
  a9 := Tryz.isAgg9
  z9 := Tryz.sizeOf9
  v9 := Tryz.zeroValue9
  t22 := Tryz.underlying77
  a22 := Tryz.isAgg77
  z22 := Tryz.sizeOf77
  v22 := Tryz.zeroValue77
  t25 := Tryz.underlying114
  a25 := Tryz.isAgg114
  z25 := Tryz.sizeOf114
  v25 := Tryz.zeroValue114
  t39 := Tryz.underlying133
  a39 := Tryz.isAgg133
  z39 := Tryz.sizeOf133
  v39 := Tryz.zeroValue133
  t45 := Tryz.underlying164
  a45 := Tryz.isAgg164
  z45 := Tryz.sizeOf164
  v45 := Tryz.zeroValue164
  t46 := Tryz.underlying165
  a46 := Tryz.isAgg165
  z46 := Tryz.sizeOf165
  v46 := Tryz.zeroValue165
  t50 := Tryz.underlying169
  a50 := Tryz.isAgg169
  z50 := Tryz.sizeOf169
  v50 := Tryz.zeroValue169
  t53 := Tryz.underlying32
  a53 := Tryz.isAgg32
  z53 := Tryz.sizeOf32
  v53 := Tryz.zeroValue32
  t55 := Tryz.underlying173
  a55 := Tryz.isAgg173
  z55 := Tryz.sizeOf173
  v55 := Tryz.zeroValue173
  t66 := Tryz.underlying188
  a66 := Tryz.isAgg188
  z66 := Tryz.sizeOf188
  v66 := Tryz.zeroValue188
  t70 := Tryz.underlying192
  a70 := Tryz.isAgg192
  z70 := Tryz.sizeOf192
  v70 := Tryz.zeroValue192
  t76 := Tryz.underlying203
  a76 := Tryz.isAgg203
  z76 := Tryz.sizeOf203
  v76 := Tryz.zeroValue203
  t77 := Tryz.underlying147
  a77 := Tryz.isAgg147
  z77 := Tryz.sizeOf147
  v77 := Tryz.zeroValue147
}
def renC : Ren := ⟨fun | 5 => 54 | 7 => 81 | n => n, fun | 3 => 3 | 4 => 4 | 22 => 3 | n => n, fun n => n⟩
theorem laysC : SlLaysC2.n5 Tryz.prog renC := {
  mixed := by kernel_rfl
  f5 := ⟨Tryz.f54.name, by kernel_rfl, (Tryz.func54).trans (by kernel_rfl)⟩
  f7 := ⟨Tryz.f81.name, by kernel_rfl, (Tryz.func81).trans (by kernel_rfl)⟩
  t3 := Tryz.underlying3
  a3 := Tryz.isAgg3
  z3 := Tryz.sizeOf3
  v3 := Tryz.zeroValue3
  t4 := Tryz.underlying4
  a4 := Tryz.isAgg4
  z4 := Tryz.sizeOf4
  v4 := Tryz.zeroValue4
  t22 := Tryz.underlying3
  a22 := Tryz.isAgg3
  z22 := Tryz.sizeOf3
  v22 := Tryz.zeroValue3
}
end Srf
