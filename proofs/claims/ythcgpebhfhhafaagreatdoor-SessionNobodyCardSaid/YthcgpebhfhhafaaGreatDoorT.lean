/- The seat's types, as a table (written by gt.py, a program of this session's own). -/
import Derived.Test.YthcgpebhfhhafaaGreatDoorG14
import Derived.Test.YthcgpebhfhhafaaGreatDoorProg
import Derived.KernelRfl
namespace Go.Proofs.YthcgpebhfhhafaaGreatDoorG
open Go Go.Proofs
set_option linter.defProp false
set_option maxRecDepth 100000
def ti2 : TI := ⟨.int .i64, 1, 8, [.raw (.int .i64 0)]⟩
theorem ti2_ok : TIok Tryz.prog 2 ti2 := ⟨by kernel_rfl, by kernel_rfl, by kernel_rfl⟩
def ti3 : TI := ⟨.int .i64, 1, 8, [.raw (.int .i64 0)]⟩
theorem ti3_ok : TIok Tryz.prog 3 ti3 := ⟨by kernel_rfl, by kernel_rfl, by kernel_rfl⟩
def ti4 : TI := ⟨.bool, 1, 1, [.raw (.bool false)]⟩
theorem ti4_ok : TIok Tryz.prog 4 ti4 := ⟨by kernel_rfl, by kernel_rfl, by kernel_rfl⟩
def ti5 : TI := ⟨.int .u8, 1, 1, [.raw (.int .u8 0)]⟩
theorem ti5_ok : TIok Tryz.prog 5 ti5 := ⟨by kernel_rfl, by kernel_rfl, by kernel_rfl⟩
def ti6 : TI := ⟨.int .u8, 1, 1, [.raw (.int .u8 0)]⟩
theorem ti6_ok : TIok Tryz.prog 6 ti6 := ⟨by kernel_rfl, by kernel_rfl, by kernel_rfl⟩
def ti7 : TI := ⟨.struct [(2, 0), (3, 1), (4, 2), (6, 3)], 4, 24, [.raw (.int .i64 0), .raw (.int .i64 0), .raw (.bool false), .raw (.int .u8 0)]⟩
theorem ti7_ok : TIok Tryz.prog 7 ti7 := ⟨by kernel_rfl, by kernel_rfl, by kernel_rfl⟩
def ti8 : TI := ⟨.struct [(2, 0), (3, 1), (4, 2), (6, 3)], 4, 24, [.raw (.int .i64 0), .raw (.int .i64 0), .raw (.bool false), .raw (.int .u8 0)]⟩
theorem ti8_ok : TIok Tryz.prog 8 ti8 := ⟨by kernel_rfl, by kernel_rfl, by kernel_rfl⟩
def ti9 : TI := ⟨.str, 1, 16, [.raw (.string "".toUTF8)]⟩
theorem ti9_ok : TIok Tryz.prog 9 ti9 := ⟨by kernel_rfl, by kernel_rfl, by kernel_rfl⟩
def ti10 : TI := ⟨.str, 1, 16, [.raw (.string "".toUTF8)]⟩
theorem ti10_ok : TIok Tryz.prog 10 ti10 := ⟨by kernel_rfl, by kernel_rfl, by kernel_rfl⟩
def ti11 : TI := ⟨.str, 1, 16, [.raw (.string "".toUTF8)]⟩
theorem ti11_ok : TIok Tryz.prog 11 ti11 := ⟨by kernel_rfl, by kernel_rfl, by kernel_rfl⟩
def ti12 : TI := ⟨.int .u64, 1, 8, [.raw (.int .u64 0)]⟩
theorem ti12_ok : TIok Tryz.prog 12 ti12 := ⟨by kernel_rfl, by kernel_rfl, by kernel_rfl⟩
def ti13 : TI := ⟨.struct [(9, 0), (12, 1)], 2, 24, [.raw (.string "".toUTF8), .raw (.int .u64 0)]⟩
theorem ti13_ok : TIok Tryz.prog 13 ti13 := ⟨by kernel_rfl, by kernel_rfl, by kernel_rfl⟩
def ti14 : TI := ⟨.struct [(9, 0), (12, 1)], 2, 24, [.raw (.string "".toUTF8), .raw (.int .u64 0)]⟩
theorem ti14_ok : TIok Tryz.prog 14 ti14 := ⟨by kernel_rfl, by kernel_rfl, by kernel_rfl⟩
def ti15 : TI := ⟨.ptr 356, 1, 8, [.raw (.pointer none)]⟩
theorem ti15_ok : TIok Tryz.prog 15 ti15 := ⟨by kernel_rfl, by kernel_rfl, by kernel_rfl⟩
def ti16 : TI := ⟨.ptr 359, 1, 8, [.raw (.pointer none)]⟩
theorem ti16_ok : TIok Tryz.prog 16 ti16 := ⟨by kernel_rfl, by kernel_rfl, by kernel_rfl⟩
def ti17 : TI := ⟨.ptr 367, 1, 8, [.raw (.pointer none)]⟩
theorem ti17_ok : TIok Tryz.prog 17 ti17 := ⟨by kernel_rfl, by kernel_rfl, by kernel_rfl⟩
def ti18 : TI := ⟨.struct [(17, 0)], 1, 8, [.raw (.pointer none)]⟩
theorem ti18_ok : TIok Tryz.prog 18 ti18 := ⟨by kernel_rfl, by kernel_rfl, by kernel_rfl⟩
def ti19 : TI := ⟨.struct [(17, 0)], 1, 8, [.raw (.pointer none)]⟩
theorem ti19_ok : TIok Tryz.prog 19 ti19 := ⟨by kernel_rfl, by kernel_rfl, by kernel_rfl⟩
def ti20 : TI := ⟨.other, 1, 16, [.raw (.nilIface)]⟩
theorem ti20_ok : TIok Tryz.prog 20 ti20 := ⟨by kernel_rfl, by kernel_rfl, by kernel_rfl⟩
def ti21 : TI := ⟨.int .i32, 1, 4, [.raw (.int .i32 0)]⟩
theorem ti21_ok : TIok Tryz.prog 21 ti21 := ⟨by kernel_rfl, by kernel_rfl, by kernel_rfl⟩
def ti22 : TI := ⟨.slice 5, 1, 24, [.nil 5 1]⟩
theorem ti22_ok : TIok Tryz.prog 22 ti22 := ⟨by kernel_rfl, by kernel_rfl, by kernel_rfl⟩
def ti23 : TI := ⟨.slice 3, 1, 24, [.nil 3 1]⟩
theorem ti23_ok : TIok Tryz.prog 23 ti23 := ⟨by kernel_rfl, by kernel_rfl, by kernel_rfl⟩
def ti24 : TI := ⟨.struct [(3, 0), (3, 1), (3, 2), (22, 3), (23, 4)], 5, 72, [.raw (.int .i64 0), .raw (.int .i64 0), .raw (.int .i64 0), .nil 5 1, .nil 3 1]⟩
theorem ti24_ok : TIok Tryz.prog 24 ti24 := ⟨by kernel_rfl, by kernel_rfl, by kernel_rfl⟩
def ti25 : TI := ⟨.struct [(3, 0), (3, 1), (3, 2), (22, 3), (23, 4)], 5, 72, [.raw (.int .i64 0), .raw (.int .i64 0), .raw (.int .i64 0), .nil 5 1, .nil 3 1]⟩
theorem ti25_ok : TIok Tryz.prog 25 ti25 := ⟨by kernel_rfl, by kernel_rfl, by kernel_rfl⟩
def ti26 : TI := ⟨.ptr 30, 1, 8, [.raw (.pointer none)]⟩
theorem ti26_ok : TIok Tryz.prog 26 ti26 := ⟨by kernel_rfl, by kernel_rfl, by kernel_rfl⟩
def ti27 : TI := ⟨.ptr 64, 1, 8, [.raw (.pointer none)]⟩
theorem ti27_ok : TIok Tryz.prog 27 ti27 := ⟨by kernel_rfl, by kernel_rfl, by kernel_rfl⟩
def ti28 : TI := ⟨.other, 1, 8, [.raw (.map none)]⟩
theorem ti28_ok : TIok Tryz.prog 28 ti28 := ⟨by kernel_rfl, by kernel_rfl, by kernel_rfl⟩
def ti29 : TI := ⟨.struct [(27, 0), (3, 1), (28, 2)], 3, 24, [.raw (.pointer none), .raw (.int .i64 0), .raw (.map none)]⟩
theorem ti29_ok : TIok Tryz.prog 29 ti29 := ⟨by kernel_rfl, by kernel_rfl, by kernel_rfl⟩
def ti30 : TI := ⟨.struct [(27, 0), (3, 1), (28, 2)], 3, 24, [.raw (.pointer none), .raw (.int .i64 0), .raw (.map none)]⟩
theorem ti30_ok : TIok Tryz.prog 30 ti30 := ⟨by kernel_rfl, by kernel_rfl, by kernel_rfl⟩
def ti31 : TI := ⟨.slice 26, 1, 24, [.nil 26 1]⟩
theorem ti31_ok : TIok Tryz.prog 31 ti31 := ⟨by kernel_rfl, by kernel_rfl, by kernel_rfl⟩
def ti32 : TI := ⟨.int .i64, 1, 8, [.raw (.int .i64 0)]⟩
theorem ti32_ok : TIok Tryz.prog 32 ti32 := ⟨by kernel_rfl, by kernel_rfl, by kernel_rfl⟩
def ti37 : TI := ⟨.slice 49, 1, 24, [.nil 49 1]⟩
theorem ti37_ok : TIok Tryz.prog 37 ti37 := ⟨by kernel_rfl, by kernel_rfl, by kernel_rfl⟩
def ti40 : TI := ⟨.slice 85, 1, 24, [.nil 85 3]⟩
theorem ti40_ok : TIok Tryz.prog 40 ti40 := ⟨by kernel_rfl, by kernel_rfl, by kernel_rfl⟩
def ti46 : TI := ⟨.slice 32, 1, 24, [.nil 32 1]⟩
theorem ti46_ok : TIok Tryz.prog 46 ti46 := ⟨by kernel_rfl, by kernel_rfl, by kernel_rfl⟩
def ti49 : TI := ⟨.slice 21, 1, 24, [.nil 21 1]⟩
theorem ti49_ok : TIok Tryz.prog 49 ti49 := ⟨by kernel_rfl, by kernel_rfl, by kernel_rfl⟩
def ti50 : TI := ⟨.slice 115, 1, 24, [.nil 115 3]⟩
theorem ti50_ok : TIok Tryz.prog 50 ti50 := ⟨by kernel_rfl, by kernel_rfl, by kernel_rfl⟩
def ti52 : TI := ⟨.struct [(49, 0), (50, 1), (50, 2)], 3, 72, [.nil 21 1, .nil 115 3, .nil 115 3]⟩
theorem ti52_ok : TIok Tryz.prog 52 ti52 := ⟨by kernel_rfl, by kernel_rfl, by kernel_rfl⟩
def ti54 : TI := ⟨.struct [(52, 0), (3, 3), (3, 4)], 5, 88, [.nil 21 1, .nil 115 3, .nil 115 3, .raw (.int .i64 0), .raw (.int .i64 0)]⟩
theorem ti54_ok : TIok Tryz.prog 54 ti54 := ⟨by kernel_rfl, by kernel_rfl, by kernel_rfl⟩
def ti55 : TI := ⟨.struct [(54, 0), (3, 5)], 6, 96, [.nil 21 1, .nil 115 3, .nil 115 3, .raw (.int .i64 0), .raw (.int .i64 0), .raw (.int .i64 0)]⟩
theorem ti55_ok : TIok Tryz.prog 55 ti55 := ⟨by kernel_rfl, by kernel_rfl, by kernel_rfl⟩
def ti56 : TI := ⟨.struct [(54, 0), (3, 5)], 6, 96, [.nil 21 1, .nil 115 3, .nil 115 3, .raw (.int .i64 0), .raw (.int .i64 0), .raw (.int .i64 0)]⟩
theorem ti56_ok : TIok Tryz.prog 56 ti56 := ⟨by kernel_rfl, by kernel_rfl, by kernel_rfl⟩
def ti57 : TI := ⟨.struct [(3, 0), (3, 1), (3, 2)], 3, 24, [.raw (.int .i64 0), .raw (.int .i64 0), .raw (.int .i64 0)]⟩
theorem ti57_ok : TIok Tryz.prog 57 ti57 := ⟨by kernel_rfl, by kernel_rfl, by kernel_rfl⟩
def ti58 : TI := ⟨.struct [(3, 0), (3, 1), (3, 2)], 3, 24, [.raw (.int .i64 0), .raw (.int .i64 0), .raw (.int .i64 0)]⟩
theorem ti58_ok : TIok Tryz.prog 58 ti58 := ⟨by kernel_rfl, by kernel_rfl, by kernel_rfl⟩
def ti59 : TI := ⟨.ptr 247, 1, 8, [.raw (.pointer none)]⟩
theorem ti59_ok : TIok Tryz.prog 59 ti59 := ⟨by kernel_rfl, by kernel_rfl, by kernel_rfl⟩
def ti60 : TI := ⟨.ptr 372, 1, 8, [.raw (.pointer none)]⟩
theorem ti60_ok : TIok Tryz.prog 60 ti60 := ⟨by kernel_rfl, by kernel_rfl, by kernel_rfl⟩
def ti61 : TI := ⟨.ptr 219, 1, 8, [.raw (.pointer none)]⟩
theorem ti61_ok : TIok Tryz.prog 61 ti61 := ⟨by kernel_rfl, by kernel_rfl, by kernel_rfl⟩
def ti62 : TI := ⟨.ptr 187, 1, 8, [.raw (.pointer none)]⟩
theorem ti62_ok : TIok Tryz.prog 62 ti62 := ⟨by kernel_rfl, by kernel_rfl, by kernel_rfl⟩
def ti64 : TI := ⟨.struct [(56, 0), (58, 6), (59, 9), (60, 10), (61, 11), (62, 12), (3, 13), (4, 14)], 15, 168, [.nil 21 1, .nil 115 3, .nil 115 3, .raw (.int .i64 0), .raw (.int .i64 0), .raw (.int .i64 0), .raw (.int .i64 0), .raw (.int .i64 0), .raw (.int .i64 0), .raw (.pointer none), .raw (.pointer none), .raw (.pointer none), .raw (.pointer none), .raw (.int .i64 0), .raw (.bool false)]⟩
theorem ti64_ok : TIok Tryz.prog 64 ti64 := ⟨by kernel_rfl, by kernel_rfl, by kernel_rfl⟩
def ti68 : TI := ⟨.struct [(3, 0), (3, 1)], 2, 16, [.raw (.int .i64 0), .raw (.int .i64 0)]⟩
theorem ti68_ok : TIok Tryz.prog 68 ti68 := ⟨by kernel_rfl, by kernel_rfl, by kernel_rfl⟩
def ti72 : TI := ⟨.struct [(3, 0), (3, 1), (49, 2), (23, 3), (23, 4)], 5, 88, [.raw (.int .i64 0), .raw (.int .i64 0), .nil 21 1, .nil 3 1, .nil 3 1]⟩
theorem ti72_ok : TIok Tryz.prog 72 ti72 := ⟨by kernel_rfl, by kernel_rfl, by kernel_rfl⟩
def ti75 : TI := ⟨.slice 78, 1, 24, [.nil 78 2]⟩
theorem ti75_ok : TIok Tryz.prog 75 ti75 := ⟨by kernel_rfl, by kernel_rfl, by kernel_rfl⟩
def ti78 : TI := ⟨.arr 2 3, 2, 16, [.raw (.int .i64 0), .raw (.int .i64 0)]⟩
theorem ti78_ok : TIok Tryz.prog 78 ti78 := ⟨by kernel_rfl, by kernel_rfl, by kernel_rfl⟩
def ti85 : TI := ⟨.arr 3 3, 3, 24, [.raw (.int .i64 0), .raw (.int .i64 0), .raw (.int .i64 0)]⟩
theorem ti85_ok : TIok Tryz.prog 85 ti85 := ⟨by kernel_rfl, by kernel_rfl, by kernel_rfl⟩
def ti91 : TI := ⟨.struct [(3, 0), (3, 1), (3, 2), (49, 3)], 4, 48, [.raw (.int .i64 0), .raw (.int .i64 0), .raw (.int .i64 0), .nil 21 1]⟩
theorem ti91_ok : TIok Tryz.prog 91 ti91 := ⟨by kernel_rfl, by kernel_rfl, by kernel_rfl⟩
def ti115 : TI := ⟨.struct [(3, 0), (49, 1), (49, 2)], 3, 56, [.raw (.int .i64 0), .nil 21 1, .nil 21 1]⟩
theorem ti115_ok : TIok Tryz.prog 115 ti115 := ⟨by kernel_rfl, by kernel_rfl, by kernel_rfl⟩
def ti136 : TI := ⟨.int .u64, 1, 8, [.raw (.int .u64 0)]⟩
theorem ti136_ok : TIok Tryz.prog 136 ti136 := ⟨by kernel_rfl, by kernel_rfl, by kernel_rfl⟩
def ti139 : TI := ⟨.struct [(136, 0), (3, 1), (3, 2), (23, 3)], 4, 48, [.raw (.int .u64 0), .raw (.int .i64 0), .raw (.int .i64 0), .nil 3 1]⟩
theorem ti139_ok : TIok Tryz.prog 139 ti139 := ⟨by kernel_rfl, by kernel_rfl, by kernel_rfl⟩
def T : Tab
  | 2 => some ti2
  | 3 => some ti3
  | 4 => some ti4
  | 5 => some ti5
  | 6 => some ti6
  | 7 => some ti7
  | 8 => some ti8
  | 9 => some ti9
  | 10 => some ti10
  | 11 => some ti11
  | 12 => some ti12
  | 13 => some ti13
  | 14 => some ti14
  | 15 => some ti15
  | 16 => some ti16
  | 17 => some ti17
  | 18 => some ti18
  | 19 => some ti19
  | 20 => some ti20
  | 21 => some ti21
  | 22 => some ti22
  | 23 => some ti23
  | 24 => some ti24
  | 25 => some ti25
  | 26 => some ti26
  | 27 => some ti27
  | 28 => some ti28
  | 29 => some ti29
  | 30 => some ti30
  | 31 => some ti31
  | 32 => some ti32
  | 37 => some ti37
  | 40 => some ti40
  | 46 => some ti46
  | 49 => some ti49
  | 50 => some ti50
  | 52 => some ti52
  | 54 => some ti54
  | 55 => some ti55
  | 56 => some ti56
  | 57 => some ti57
  | 58 => some ti58
  | 59 => some ti59
  | 60 => some ti60
  | 61 => some ti61
  | 62 => some ti62
  | 64 => some ti64
  | 68 => some ti68
  | 72 => some ti72
  | 75 => some ti75
  | 78 => some ti78
  | 85 => some ti85
  | 91 => some ti91
  | 115 => some ti115
  | 136 => some ti136
  | 139 => some ti139
  | _ => none
def ET := And.intro @ti2.eq_1 <| And.intro @ti3.eq_1 <| And.intro @ti4.eq_1 <| And.intro @ti5.eq_1 <| And.intro @ti6.eq_1 <| And.intro @ti7.eq_1 <| And.intro @ti8.eq_1 <| And.intro @ti9.eq_1 <| And.intro @ti10.eq_1 <| And.intro @ti11.eq_1 <| And.intro @ti12.eq_1 <| And.intro @ti13.eq_1 <| And.intro @ti14.eq_1 <| And.intro @ti15.eq_1 <| And.intro @ti16.eq_1 <| And.intro @ti17.eq_1 <| And.intro @ti18.eq_1 <| And.intro @ti19.eq_1 <| And.intro @ti20.eq_1 <| And.intro @ti21.eq_1 <| And.intro @ti22.eq_1 <| And.intro @ti23.eq_1 <| And.intro @ti24.eq_1 <| And.intro @ti25.eq_1 <| And.intro @ti26.eq_1 <| And.intro @ti27.eq_1 <| And.intro @ti28.eq_1 <| And.intro @ti29.eq_1 <| And.intro @ti30.eq_1 <| And.intro @ti31.eq_1 <| And.intro @ti32.eq_1 <| And.intro @ti37.eq_1 <| And.intro @ti40.eq_1 <| And.intro @ti46.eq_1 <| And.intro @ti49.eq_1 <| And.intro @ti50.eq_1 <| And.intro @ti52.eq_1 <| And.intro @ti54.eq_1 <| And.intro @ti55.eq_1 <| And.intro @ti56.eq_1 <| And.intro @ti57.eq_1 <| And.intro @ti58.eq_1 <| And.intro @ti59.eq_1 <| And.intro @ti60.eq_1 <| And.intro @ti61.eq_1 <| And.intro @ti62.eq_1 <| And.intro @ti64.eq_1 <| And.intro @ti68.eq_1 <| And.intro @ti72.eq_1 <| And.intro @ti75.eq_1 <| And.intro @ti78.eq_1 <| And.intro @ti85.eq_1 <| And.intro @ti91.eq_1 <| And.intro @ti115.eq_1 <| And.intro @ti136.eq_1 <| @ti139.eq_1
theorem T_ok : Tok Tryz.prog T := by
  intro t i h
  unfold T at h
  split at h
  · cases h; exact ti2_ok
  · cases h; exact ti3_ok
  · cases h; exact ti4_ok
  · cases h; exact ti5_ok
  · cases h; exact ti6_ok
  · cases h; exact ti7_ok
  · cases h; exact ti8_ok
  · cases h; exact ti9_ok
  · cases h; exact ti10_ok
  · cases h; exact ti11_ok
  · cases h; exact ti12_ok
  · cases h; exact ti13_ok
  · cases h; exact ti14_ok
  · cases h; exact ti15_ok
  · cases h; exact ti16_ok
  · cases h; exact ti17_ok
  · cases h; exact ti18_ok
  · cases h; exact ti19_ok
  · cases h; exact ti20_ok
  · cases h; exact ti21_ok
  · cases h; exact ti22_ok
  · cases h; exact ti23_ok
  · cases h; exact ti24_ok
  · cases h; exact ti25_ok
  · cases h; exact ti26_ok
  · cases h; exact ti27_ok
  · cases h; exact ti28_ok
  · cases h; exact ti29_ok
  · cases h; exact ti30_ok
  · cases h; exact ti31_ok
  · cases h; exact ti32_ok
  · cases h; exact ti37_ok
  · cases h; exact ti40_ok
  · cases h; exact ti46_ok
  · cases h; exact ti49_ok
  · cases h; exact ti50_ok
  · cases h; exact ti52_ok
  · cases h; exact ti54_ok
  · cases h; exact ti55_ok
  · cases h; exact ti56_ok
  · cases h; exact ti57_ok
  · cases h; exact ti58_ok
  · cases h; exact ti59_ok
  · cases h; exact ti60_ok
  · cases h; exact ti61_ok
  · cases h; exact ti62_ok
  · cases h; exact ti64_ok
  · cases h; exact ti68_ok
  · cases h; exact ti72_ok
  · cases h; exact ti75_ok
  · cases h; exact ti78_ok
  · cases h; exact ti85_ok
  · cases h; exact ti91_ok
  · cases h; exact ti115_ok
  · cases h; exact ti136_ok
  · cases h; exact ti139_ok
  · cases h
end Go.Proofs.YthcgpebhfhhafaaGreatDoorG
