/- The seat's types, as a table (written by gt.py, a program of this session's own). -/
import Derived.Test.YtaleiogdokdplaaGreatDoorG14
import Derived.Test.YtaleiogdokdplaaGreatDoorProg
import Derived.KernelRfl
namespace Go.Proofs.YtaleiogdokdplaaGreatDoorG
open Go Go.Proofs
set_option linter.defProp false
set_option maxRecDepth 100000
def ti2 : TI := ⟨.int .i64, 1, 8, [.raw (.int .i64 0)]⟩
theorem ti2_ok : TIok Tryz.prog 2 ti2 := ⟨by kernel_rfl, by kernel_rfl, by kernel_rfl⟩
def ti3 : TI := ⟨.int .i64, 1, 8, [.raw (.int .i64 0)]⟩
theorem ti3_ok : TIok Tryz.prog 3 ti3 := ⟨by kernel_rfl, by kernel_rfl, by kernel_rfl⟩
def ti4 : TI := ⟨.bool, 1, 1, [.raw (.bool false)]⟩
theorem ti4_ok : TIok Tryz.prog 4 ti4 := ⟨by kernel_rfl, by kernel_rfl, by kernel_rfl⟩
def ti5 : TI := ⟨.int .u8, 1, 1, [.raw (.int .u8 0)]⟩
theorem ti5_ok : TIok Tryz.prog 5 ti5 := ⟨by kernel_rfl, by kernel_rfl, by kernel_rfl⟩
def ti6 : TI := ⟨.int .u8, 1, 1, [.raw (.int .u8 0)]⟩
theorem ti6_ok : TIok Tryz.prog 6 ti6 := ⟨by kernel_rfl, by kernel_rfl, by kernel_rfl⟩
def ti7 : TI := ⟨.struct [(2, 0), (3, 1), (4, 2), (6, 3)], 4, 24, [.raw (.int .i64 0), .raw (.int .i64 0), .raw (.bool false), .raw (.int .u8 0)]⟩
theorem ti7_ok : TIok Tryz.prog 7 ti7 := ⟨by kernel_rfl, by kernel_rfl, by kernel_rfl⟩
def ti8 : TI := ⟨.struct [(2, 0), (3, 1), (4, 2), (6, 3)], 4, 24, [.raw (.int .i64 0), .raw (.int .i64 0), .raw (.bool false), .raw (.int .u8 0)]⟩
theorem ti8_ok : TIok Tryz.prog 8 ti8 := ⟨by kernel_rfl, by kernel_rfl, by kernel_rfl⟩
def ti9 : TI := ⟨.str, 1, 16, [.raw (.string "".toUTF8)]⟩
theorem ti9_ok : TIok Tryz.prog 9 ti9 := ⟨by kernel_rfl, by kernel_rfl, by kernel_rfl⟩
def ti10 : TI := ⟨.str, 1, 16, [.raw (.string "".toUTF8)]⟩
theorem ti10_ok : TIok Tryz.prog 10 ti10 := ⟨by kernel_rfl, by kernel_rfl, by kernel_rfl⟩
def ti11 : TI := ⟨.str, 1, 16, [.raw (.string "".toUTF8)]⟩
theorem ti11_ok : TIok Tryz.prog 11 ti11 := ⟨by kernel_rfl, by kernel_rfl, by kernel_rfl⟩
def ti12 : TI := ⟨.int .u64, 1, 8, [.raw (.int .u64 0)]⟩
theorem ti12_ok : TIok Tryz.prog 12 ti12 := ⟨by kernel_rfl, by kernel_rfl, by kernel_rfl⟩
def ti13 : TI := ⟨.struct [(9, 0), (12, 1)], 2, 24, [.raw (.string "".toUTF8), .raw (.int .u64 0)]⟩
theorem ti13_ok : TIok Tryz.prog 13 ti13 := ⟨by kernel_rfl, by kernel_rfl, by kernel_rfl⟩
def ti14 : TI := ⟨.struct [(9, 0), (12, 1)], 2, 24, [.raw (.string "".toUTF8), .raw (.int .u64 0)]⟩
theorem ti14_ok : TIok Tryz.prog 14 ti14 := ⟨by kernel_rfl, by kernel_rfl, by kernel_rfl⟩
def ti15 : TI := ⟨.ptr 356, 1, 8, [.raw (.pointer none)]⟩
theorem ti15_ok : TIok Tryz.prog 15 ti15 := ⟨by kernel_rfl, by kernel_rfl, by kernel_rfl⟩
def ti16 : TI := ⟨.ptr 359, 1, 8, [.raw (.pointer none)]⟩
theorem ti16_ok : TIok Tryz.prog 16 ti16 := ⟨by kernel_rfl, by kernel_rfl, by kernel_rfl⟩
def ti17 : TI := ⟨.ptr 367, 1, 8, [.raw (.pointer none)]⟩
theorem ti17_ok : TIok Tryz.prog 17 ti17 := ⟨by kernel_rfl, by kernel_rfl, by kernel_rfl⟩
def ti18 : TI := ⟨.struct [(17, 0)], 1, 8, [.raw (.pointer none)]⟩
theorem ti18_ok : TIok Tryz.prog 18 ti18 := ⟨by kernel_rfl, by kernel_rfl, by kernel_rfl⟩
def ti19 : TI := ⟨.struct [(17, 0)], 1, 8, [.raw (.pointer none)]⟩
theorem ti19_ok : TIok Tryz.prog 19 ti19 := ⟨by kernel_rfl, by kernel_rfl, by kernel_rfl⟩
def ti20 : TI := ⟨.other, 1, 16, [.raw (.nilIface)]⟩
theorem ti20_ok : TIok Tryz.prog 20 ti20 := ⟨by kernel_rfl, by kernel_rfl, by kernel_rfl⟩
def ti21 : TI := ⟨.int .i32, 1, 4, [.raw (.int .i32 0)]⟩
theorem ti21_ok : TIok Tryz.prog 21 ti21 := ⟨by kernel_rfl, by kernel_rfl, by kernel_rfl⟩
def ti22 : TI := ⟨.slice 21, 1, 24, [.nil 21 1]⟩
theorem ti22_ok : TIok Tryz.prog 22 ti22 := ⟨by kernel_rfl, by kernel_rfl, by kernel_rfl⟩
def ti23 : TI := ⟨.struct [(3, 0), (3, 1), (3, 2), (22, 3)], 4, 48, [.raw (.int .i64 0), .raw (.int .i64 0), .raw (.int .i64 0), .nil 21 1]⟩
theorem ti23_ok : TIok Tryz.prog 23 ti23 := ⟨by kernel_rfl, by kernel_rfl, by kernel_rfl⟩
def ti24 : TI := ⟨.struct [(3, 0), (3, 1), (3, 2), (22, 3)], 4, 48, [.raw (.int .i64 0), .raw (.int .i64 0), .raw (.int .i64 0), .nil 21 1]⟩
theorem ti24_ok : TIok Tryz.prog 24 ti24 := ⟨by kernel_rfl, by kernel_rfl, by kernel_rfl⟩
def ti25 : TI := ⟨.slice 3, 1, 24, [.nil 3 1]⟩
theorem ti25_ok : TIok Tryz.prog 25 ti25 := ⟨by kernel_rfl, by kernel_rfl, by kernel_rfl⟩
def ti26 : TI := ⟨.struct [(3, 0), (3, 1), (3, 2), (24, 3), (25, 7)], 8, 96, [.raw (.int .i64 0), .raw (.int .i64 0), .raw (.int .i64 0), .raw (.int .i64 0), .raw (.int .i64 0), .raw (.int .i64 0), .nil 21 1, .nil 3 1]⟩
theorem ti26_ok : TIok Tryz.prog 26 ti26 := ⟨by kernel_rfl, by kernel_rfl, by kernel_rfl⟩
def ti27 : TI := ⟨.struct [(3, 0), (3, 1), (3, 2), (24, 3), (25, 7)], 8, 96, [.raw (.int .i64 0), .raw (.int .i64 0), .raw (.int .i64 0), .raw (.int .i64 0), .raw (.int .i64 0), .raw (.int .i64 0), .nil 21 1, .nil 3 1]⟩
theorem ti27_ok : TIok Tryz.prog 27 ti27 := ⟨by kernel_rfl, by kernel_rfl, by kernel_rfl⟩
def ti28 : TI := ⟨.struct [(3, 0), (3, 1), (3, 2)], 3, 24, [.raw (.int .i64 0), .raw (.int .i64 0), .raw (.int .i64 0)]⟩
theorem ti28_ok : TIok Tryz.prog 28 ti28 := ⟨by kernel_rfl, by kernel_rfl, by kernel_rfl⟩
def ti29 : TI := ⟨.struct [(3, 0), (3, 1), (3, 2)], 3, 24, [.raw (.int .i64 0), .raw (.int .i64 0), .raw (.int .i64 0)]⟩
theorem ti29_ok : TIok Tryz.prog 29 ti29 := ⟨by kernel_rfl, by kernel_rfl, by kernel_rfl⟩
def ti30 : TI := ⟨.ptr 43, 1, 8, [.raw (.pointer none)]⟩
theorem ti30_ok : TIok Tryz.prog 30 ti30 := ⟨by kernel_rfl, by kernel_rfl, by kernel_rfl⟩
def ti31 : TI := ⟨.slice 84, 1, 24, [.nil 84 3]⟩
theorem ti31_ok : TIok Tryz.prog 31 ti31 := ⟨by kernel_rfl, by kernel_rfl, by kernel_rfl⟩
def ti32 : TI := ⟨.struct [(22, 0), (31, 1), (31, 2)], 3, 72, [.nil 21 1, .nil 84 3, .nil 84 3]⟩
theorem ti32_ok : TIok Tryz.prog 32 ti32 := ⟨by kernel_rfl, by kernel_rfl, by kernel_rfl⟩
def ti33 : TI := ⟨.struct [(22, 0), (31, 1), (31, 2)], 3, 72, [.nil 21 1, .nil 84 3, .nil 84 3]⟩
theorem ti33_ok : TIok Tryz.prog 33 ti33 := ⟨by kernel_rfl, by kernel_rfl, by kernel_rfl⟩
def ti34 : TI := ⟨.struct [(33, 0), (3, 3), (3, 4)], 5, 88, [.nil 21 1, .nil 84 3, .nil 84 3, .raw (.int .i64 0), .raw (.int .i64 0)]⟩
theorem ti34_ok : TIok Tryz.prog 34 ti34 := ⟨by kernel_rfl, by kernel_rfl, by kernel_rfl⟩
def ti35 : TI := ⟨.struct [(33, 0), (3, 3), (3, 4)], 5, 88, [.nil 21 1, .nil 84 3, .nil 84 3, .raw (.int .i64 0), .raw (.int .i64 0)]⟩
theorem ti35_ok : TIok Tryz.prog 35 ti35 := ⟨by kernel_rfl, by kernel_rfl, by kernel_rfl⟩
def ti36 : TI := ⟨.struct [(35, 0), (3, 5)], 6, 96, [.nil 21 1, .nil 84 3, .nil 84 3, .raw (.int .i64 0), .raw (.int .i64 0), .raw (.int .i64 0)]⟩
theorem ti36_ok : TIok Tryz.prog 36 ti36 := ⟨by kernel_rfl, by kernel_rfl, by kernel_rfl⟩
def ti37 : TI := ⟨.struct [(35, 0), (3, 5)], 6, 96, [.nil 21 1, .nil 84 3, .nil 84 3, .raw (.int .i64 0), .raw (.int .i64 0), .raw (.int .i64 0)]⟩
theorem ti37_ok : TIok Tryz.prog 37 ti37 := ⟨by kernel_rfl, by kernel_rfl, by kernel_rfl⟩
def ti38 : TI := ⟨.ptr 56, 1, 8, [.raw (.pointer none)]⟩
theorem ti38_ok : TIok Tryz.prog 38 ti38 := ⟨by kernel_rfl, by kernel_rfl, by kernel_rfl⟩
def ti39 : TI := ⟨.ptr 159, 1, 8, [.raw (.pointer none)]⟩
theorem ti39_ok : TIok Tryz.prog 39 ti39 := ⟨by kernel_rfl, by kernel_rfl, by kernel_rfl⟩
def ti40 : TI := ⟨.ptr 145, 1, 8, [.raw (.pointer none)]⟩
theorem ti40_ok : TIok Tryz.prog 40 ti40 := ⟨by kernel_rfl, by kernel_rfl, by kernel_rfl⟩
def ti41 : TI := ⟨.ptr 124, 1, 8, [.raw (.pointer none)]⟩
theorem ti41_ok : TIok Tryz.prog 41 ti41 := ⟨by kernel_rfl, by kernel_rfl, by kernel_rfl⟩
def ti42 : TI := ⟨.struct [(37, 0), (29, 6), (38, 9), (39, 10), (40, 11), (41, 12), (3, 13), (4, 14)], 15, 168, [.nil 21 1, .nil 84 3, .nil 84 3, .raw (.int .i64 0), .raw (.int .i64 0), .raw (.int .i64 0), .raw (.int .i64 0), .raw (.int .i64 0), .raw (.int .i64 0), .raw (.pointer none), .raw (.pointer none), .raw (.pointer none), .raw (.pointer none), .raw (.int .i64 0), .raw (.bool false)]⟩
theorem ti42_ok : TIok Tryz.prog 42 ti42 := ⟨by kernel_rfl, by kernel_rfl, by kernel_rfl⟩
def ti43 : TI := ⟨.struct [(37, 0), (29, 6), (38, 9), (39, 10), (40, 11), (41, 12), (3, 13), (4, 14)], 15, 168, [.nil 21 1, .nil 84 3, .nil 84 3, .raw (.int .i64 0), .raw (.int .i64 0), .raw (.int .i64 0), .raw (.int .i64 0), .raw (.int .i64 0), .raw (.int .i64 0), .raw (.pointer none), .raw (.pointer none), .raw (.pointer none), .raw (.pointer none), .raw (.int .i64 0), .raw (.bool false)]⟩
theorem ti43_ok : TIok Tryz.prog 43 ti43 := ⟨by kernel_rfl, by kernel_rfl, by kernel_rfl⟩
def ti44 : TI := ⟨.slice 30, 1, 24, [.nil 30 1]⟩
theorem ti44_ok : TIok Tryz.prog 44 ti44 := ⟨by kernel_rfl, by kernel_rfl, by kernel_rfl⟩
def ti45 : TI := ⟨.int .i64, 1, 8, [.raw (.int .i64 0)]⟩
theorem ti45_ok : TIok Tryz.prog 45 ti45 := ⟨by kernel_rfl, by kernel_rfl, by kernel_rfl⟩
def ti53 : TI := ⟨.slice 206, 1, 24, [.nil 206 64]⟩
theorem ti53_ok : TIok Tryz.prog 53 ti53 := ⟨by kernel_rfl, by kernel_rfl, by kernel_rfl⟩
def ti54 : TI := ⟨.slice 208, 1, 24, [.nil 208 65]⟩
theorem ti54_ok : TIok Tryz.prog 54 ti54 := ⟨by kernel_rfl, by kernel_rfl, by kernel_rfl⟩
def ti56 : TI := ⟨.struct [(53, 0), (54, 1), (3, 2), (4, 3), (3, 4)], 5, 72, [.nil 206 64, .nil 208 65, .raw (.int .i64 0), .raw (.bool false), .raw (.int .i64 0)]⟩
theorem ti56_ok : TIok Tryz.prog 56 ti56 := ⟨by kernel_rfl, by kernel_rfl, by kernel_rfl⟩
def ti57 : TI := ⟨.slice 38, 1, 24, [.nil 38 1]⟩
theorem ti57_ok : TIok Tryz.prog 57 ti57 := ⟨by kernel_rfl, by kernel_rfl, by kernel_rfl⟩
def ti62 : TI := ⟨.slice 64, 1, 24, [.nil 64 2]⟩
theorem ti62_ok : TIok Tryz.prog 62 ti62 := ⟨by kernel_rfl, by kernel_rfl, by kernel_rfl⟩
def ti64 : TI := ⟨.arr 2 3, 2, 16, [.raw (.int .i64 0), .raw (.int .i64 0)]⟩
theorem ti64_ok : TIok Tryz.prog 64 ti64 := ⟨by kernel_rfl, by kernel_rfl, by kernel_rfl⟩
def ti66 : TI := ⟨.int .u64, 1, 8, [.raw (.int .u64 0)]⟩
theorem ti66_ok : TIok Tryz.prog 66 ti66 := ⟨by kernel_rfl, by kernel_rfl, by kernel_rfl⟩
def ti69 : TI := ⟨.struct [(66, 0), (3, 1), (3, 2), (25, 3)], 4, 48, [.raw (.int .u64 0), .raw (.int .i64 0), .raw (.int .i64 0), .nil 3 1]⟩
theorem ti69_ok : TIok Tryz.prog 69 ti69 := ⟨by kernel_rfl, by kernel_rfl, by kernel_rfl⟩
def ti75 : TI := ⟨.slice 5, 1, 24, [.nil 5 1]⟩
theorem ti75_ok : TIok Tryz.prog 75 ti75 := ⟨by kernel_rfl, by kernel_rfl, by kernel_rfl⟩
def ti84 : TI := ⟨.struct [(3, 0), (22, 1), (22, 2)], 3, 56, [.raw (.int .i64 0), .nil 21 1, .nil 21 1]⟩
theorem ti84_ok : TIok Tryz.prog 84 ti84 := ⟨by kernel_rfl, by kernel_rfl, by kernel_rfl⟩
def T : Tab
  | 2 => some ti2
  | 3 => some ti3
  | 4 => some ti4
  | 5 => some ti5
  | 6 => some ti6
  | 7 => some ti7
  | 8 => some ti8
  | 9 => some ti9
  | 10 => some ti10
  | 11 => some ti11
  | 12 => some ti12
  | 13 => some ti13
  | 14 => some ti14
  | 15 => some ti15
  | 16 => some ti16
  | 17 => some ti17
  | 18 => some ti18
  | 19 => some ti19
  | 20 => some ti20
  | 21 => some ti21
  | 22 => some ti22
  | 23 => some ti23
  | 24 => some ti24
  | 25 => some ti25
  | 26 => some ti26
  | 27 => some ti27
  | 28 => some ti28
  | 29 => some ti29
  | 30 => some ti30
  | 31 => some ti31
  | 32 => some ti32
  | 33 => some ti33
  | 34 => some ti34
  | 35 => some ti35
  | 36 => some ti36
  | 37 => some ti37
  | 38 => some ti38
  | 39 => some ti39
  | 40 => some ti40
  | 41 => some ti41
  | 42 => some ti42
  | 43 => some ti43
  | 44 => some ti44
  | 45 => some ti45
  | 53 => some ti53
  | 54 => some ti54
  | 56 => some ti56
  | 57 => some ti57
  | 62 => some ti62
  | 64 => some ti64
  | 66 => some ti66
  | 69 => some ti69
  | 75 => some ti75
  | 84 => some ti84
  | _ => none
def ET := And.intro @ti2.eq_1 <| And.intro @ti3.eq_1 <| And.intro @ti4.eq_1 <| And.intro @ti5.eq_1 <| And.intro @ti6.eq_1 <| And.intro @ti7.eq_1 <| And.intro @ti8.eq_1 <| And.intro @ti9.eq_1 <| And.intro @ti10.eq_1 <| And.intro @ti11.eq_1 <| And.intro @ti12.eq_1 <| And.intro @ti13.eq_1 <| And.intro @ti14.eq_1 <| And.intro @ti15.eq_1 <| And.intro @ti16.eq_1 <| And.intro @ti17.eq_1 <| And.intro @ti18.eq_1 <| And.intro @ti19.eq_1 <| And.intro @ti20.eq_1 <| And.intro @ti21.eq_1 <| And.intro @ti22.eq_1 <| And.intro @ti23.eq_1 <| And.intro @ti24.eq_1 <| And.intro @ti25.eq_1 <| And.intro @ti26.eq_1 <| And.intro @ti27.eq_1 <| And.intro @ti28.eq_1 <| And.intro @ti29.eq_1 <| And.intro @ti30.eq_1 <| And.intro @ti31.eq_1 <| And.intro @ti32.eq_1 <| And.intro @ti33.eq_1 <| And.intro @ti34.eq_1 <| And.intro @ti35.eq_1 <| And.intro @ti36.eq_1 <| And.intro @ti37.eq_1 <| And.intro @ti38.eq_1 <| And.intro @ti39.eq_1 <| And.intro @ti40.eq_1 <| And.intro @ti41.eq_1 <| And.intro @ti42.eq_1 <| And.intro @ti43.eq_1 <| And.intro @ti44.eq_1 <| And.intro @ti45.eq_1 <| And.intro @ti53.eq_1 <| And.intro @ti54.eq_1 <| And.intro @ti56.eq_1 <| And.intro @ti57.eq_1 <| And.intro @ti62.eq_1 <| And.intro @ti64.eq_1 <| And.intro @ti66.eq_1 <| And.intro @ti69.eq_1 <| And.intro @ti75.eq_1 <| @ti84.eq_1
theorem T_ok : Tok Tryz.prog T := by
  intro t i h
  unfold T at h
  split at h
  · cases h; exact ti2_ok
  · cases h; exact ti3_ok
  · cases h; exact ti4_ok
  · cases h; exact ti5_ok
  · cases h; exact ti6_ok
  · cases h; exact ti7_ok
  · cases h; exact ti8_ok
  · cases h; exact ti9_ok
  · cases h; exact ti10_ok
  · cases h; exact ti11_ok
  · cases h; exact ti12_ok
  · cases h; exact ti13_ok
  · cases h; exact ti14_ok
  · cases h; exact ti15_ok
  · cases h; exact ti16_ok
  · cases h; exact ti17_ok
  · cases h; exact ti18_ok
  · cases h; exact ti19_ok
  · cases h; exact ti20_ok
  · cases h; exact ti21_ok
  · cases h; exact ti22_ok
  · cases h; exact ti23_ok
  · cases h; exact ti24_ok
  · cases h; exact ti25_ok
  · cases h; exact ti26_ok
  · cases h; exact ti27_ok
  · cases h; exact ti28_ok
  · cases h; exact ti29_ok
  · cases h; exact ti30_ok
  · cases h; exact ti31_ok
  · cases h; exact ti32_ok
  · cases h; exact ti33_ok
  · cases h; exact ti34_ok
  · cases h; exact ti35_ok
  · cases h; exact ti36_ok
  · cases h; exact ti37_ok
  · cases h; exact ti38_ok
  · cases h; exact ti39_ok
  · cases h; exact ti40_ok
  · cases h; exact ti41_ok
  · cases h; exact ti42_ok
  · cases h; exact ti43_ok
  · cases h; exact ti44_ok
  · cases h; exact ti45_ok
  · cases h; exact ti53_ok
  · cases h; exact ti54_ok
  · cases h; exact ti56_ok
  · cases h; exact ti57_ok
  · cases h; exact ti62_ok
  · cases h; exact ti64_ok
  · cases h; exact ti66_ok
  · cases h; exact ti69_ok
  · cases h; exact ti75_ok
  · cases h; exact ti84_ok
  · cases h
end Go.Proofs.YtaleiogdokdplaaGreatDoorG
