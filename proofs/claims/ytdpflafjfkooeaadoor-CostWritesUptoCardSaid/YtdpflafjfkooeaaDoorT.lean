/- The seat's types, as a table (written by gt.py, a program of this session's own). -/
import Derived.Test.YtdpflafjfkooeaaDoorG14
import Derived.Test.YtdpflafjfkooeaaDoorProg
import Derived.KernelRfl
namespace Go.Proofs.YtdpflafjfkooeaaDoorG
open Go Go.Proofs
set_option linter.defProp false
set_option maxRecDepth 100000
def ti2 : TI := ⟨.int .i64, 1, 8, [.raw (.int .i64 0)]⟩
theorem ti2_ok : TIok Tryd.prog 2 ti2 := ⟨by kernel_rfl, by kernel_rfl, by kernel_rfl⟩
def ti3 : TI := ⟨.int .i64, 1, 8, [.raw (.int .i64 0)]⟩
theorem ti3_ok : TIok Tryd.prog 3 ti3 := ⟨by kernel_rfl, by kernel_rfl, by kernel_rfl⟩
def ti4 : TI := ⟨.bool, 1, 1, [.raw (.bool false)]⟩
theorem ti4_ok : TIok Tryd.prog 4 ti4 := ⟨by kernel_rfl, by kernel_rfl, by kernel_rfl⟩
def ti5 : TI := ⟨.int .u8, 1, 1, [.raw (.int .u8 0)]⟩
theorem ti5_ok : TIok Tryd.prog 5 ti5 := ⟨by kernel_rfl, by kernel_rfl, by kernel_rfl⟩
def ti6 : TI := ⟨.int .u8, 1, 1, [.raw (.int .u8 0)]⟩
theorem ti6_ok : TIok Tryd.prog 6 ti6 := ⟨by kernel_rfl, by kernel_rfl, by kernel_rfl⟩
def ti7 : TI := ⟨.struct [(2, 0), (3, 1), (4, 2), (6, 3)], 4, 24, [.raw (.int .i64 0), .raw (.int .i64 0), .raw (.bool false), .raw (.int .u8 0)]⟩
theorem ti7_ok : TIok Tryd.prog 7 ti7 := ⟨by kernel_rfl, by kernel_rfl, by kernel_rfl⟩
def ti8 : TI := ⟨.struct [(2, 0), (3, 1), (4, 2), (6, 3)], 4, 24, [.raw (.int .i64 0), .raw (.int .i64 0), .raw (.bool false), .raw (.int .u8 0)]⟩
theorem ti8_ok : TIok Tryd.prog 8 ti8 := ⟨by kernel_rfl, by kernel_rfl, by kernel_rfl⟩
def ti9 : TI := ⟨.str, 1, 16, [.raw (.string "".toUTF8)]⟩
theorem ti9_ok : TIok Tryd.prog 9 ti9 := ⟨by kernel_rfl, by kernel_rfl, by kernel_rfl⟩
def ti10 : TI := ⟨.str, 1, 16, [.raw (.string "".toUTF8)]⟩
theorem ti10_ok : TIok Tryd.prog 10 ti10 := ⟨by kernel_rfl, by kernel_rfl, by kernel_rfl⟩
def ti11 : TI := ⟨.str, 1, 16, [.raw (.string "".toUTF8)]⟩
theorem ti11_ok : TIok Tryd.prog 11 ti11 := ⟨by kernel_rfl, by kernel_rfl, by kernel_rfl⟩
def ti12 : TI := ⟨.int .u64, 1, 8, [.raw (.int .u64 0)]⟩
theorem ti12_ok : TIok Tryd.prog 12 ti12 := ⟨by kernel_rfl, by kernel_rfl, by kernel_rfl⟩
def ti13 : TI := ⟨.struct [(9, 0), (12, 1)], 2, 24, [.raw (.string "".toUTF8), .raw (.int .u64 0)]⟩
theorem ti13_ok : TIok Tryd.prog 13 ti13 := ⟨by kernel_rfl, by kernel_rfl, by kernel_rfl⟩
def ti14 : TI := ⟨.struct [(9, 0), (12, 1)], 2, 24, [.raw (.string "".toUTF8), .raw (.int .u64 0)]⟩
theorem ti14_ok : TIok Tryd.prog 14 ti14 := ⟨by kernel_rfl, by kernel_rfl, by kernel_rfl⟩
def ti15 : TI := ⟨.ptr 161, 1, 8, [.raw (.pointer none)]⟩
theorem ti15_ok : TIok Tryd.prog 15 ti15 := ⟨by kernel_rfl, by kernel_rfl, by kernel_rfl⟩
def ti16 : TI := ⟨.ptr 164, 1, 8, [.raw (.pointer none)]⟩
theorem ti16_ok : TIok Tryd.prog 16 ti16 := ⟨by kernel_rfl, by kernel_rfl, by kernel_rfl⟩
def ti17 : TI := ⟨.ptr 173, 1, 8, [.raw (.pointer none)]⟩
theorem ti17_ok : TIok Tryd.prog 17 ti17 := ⟨by kernel_rfl, by kernel_rfl, by kernel_rfl⟩
def ti18 : TI := ⟨.struct [(17, 0)], 1, 8, [.raw (.pointer none)]⟩
theorem ti18_ok : TIok Tryd.prog 18 ti18 := ⟨by kernel_rfl, by kernel_rfl, by kernel_rfl⟩
def ti19 : TI := ⟨.struct [(17, 0)], 1, 8, [.raw (.pointer none)]⟩
theorem ti19_ok : TIok Tryd.prog 19 ti19 := ⟨by kernel_rfl, by kernel_rfl, by kernel_rfl⟩
def ti20 : TI := ⟨.iface, 1, 16, [.raw (.nilIface)]⟩
theorem ti20_ok : TIok Tryd.prog 20 ti20 := ⟨by kernel_rfl, by kernel_rfl, by kernel_rfl⟩
def ti21 : TI := ⟨.int .i32, 1, 4, [.raw (.int .i32 0)]⟩
theorem ti21_ok : TIok Tryd.prog 21 ti21 := ⟨by kernel_rfl, by kernel_rfl, by kernel_rfl⟩
def ti22 : TI := ⟨.struct [(3, 0), (3, 1), (3, 2)], 3, 24, [.raw (.int .i64 0), .raw (.int .i64 0), .raw (.int .i64 0)]⟩
theorem ti22_ok : TIok Tryd.prog 22 ti22 := ⟨by kernel_rfl, by kernel_rfl, by kernel_rfl⟩
def ti23 : TI := ⟨.struct [(3, 0), (3, 1), (3, 2)], 3, 24, [.raw (.int .i64 0), .raw (.int .i64 0), .raw (.int .i64 0)]⟩
theorem ti23_ok : TIok Tryd.prog 23 ti23 := ⟨by kernel_rfl, by kernel_rfl, by kernel_rfl⟩
def ti24 : TI := ⟨.slice 21, 1, 24, [.nil 21 1]⟩
theorem ti24_ok : TIok Tryd.prog 24 ti24 := ⟨by kernel_rfl, by kernel_rfl, by kernel_rfl⟩
def ti25 : TI := ⟨.struct [(3, 0), (3, 1), (3, 2), (24, 3)], 4, 48, [.raw (.int .i64 0), .raw (.int .i64 0), .raw (.int .i64 0), .nil 21 1]⟩
theorem ti25_ok : TIok Tryd.prog 25 ti25 := ⟨by kernel_rfl, by kernel_rfl, by kernel_rfl⟩
def ti26 : TI := ⟨.struct [(3, 0), (3, 1), (3, 2), (24, 3)], 4, 48, [.raw (.int .i64 0), .raw (.int .i64 0), .raw (.int .i64 0), .nil 21 1]⟩
theorem ti26_ok : TIok Tryd.prog 26 ti26 := ⟨by kernel_rfl, by kernel_rfl, by kernel_rfl⟩
def ti27 : TI := ⟨.slice 64, 1, 24, [.nil 64 3]⟩
theorem ti27_ok : TIok Tryd.prog 27 ti27 := ⟨by kernel_rfl, by kernel_rfl, by kernel_rfl⟩
def ti28 : TI := ⟨.struct [(24, 0), (27, 1), (27, 2)], 3, 72, [.nil 21 1, .nil 64 3, .nil 64 3]⟩
theorem ti28_ok : TIok Tryd.prog 28 ti28 := ⟨by kernel_rfl, by kernel_rfl, by kernel_rfl⟩
def ti29 : TI := ⟨.struct [(24, 0), (27, 1), (27, 2)], 3, 72, [.nil 21 1, .nil 64 3, .nil 64 3]⟩
theorem ti29_ok : TIok Tryd.prog 29 ti29 := ⟨by kernel_rfl, by kernel_rfl, by kernel_rfl⟩
def ti32 : TI := ⟨.int .i64, 1, 8, [.raw (.int .i64 0)]⟩
theorem ti32_ok : TIok Tryd.prog 32 ti32 := ⟨by kernel_rfl, by kernel_rfl, by kernel_rfl⟩
def ti44 : TI := ⟨.slice 26, 1, 24, [.nil 26 4]⟩
theorem ti44_ok : TIok Tryd.prog 44 ti44 := ⟨by kernel_rfl, by kernel_rfl, by kernel_rfl⟩
def ti45 : TI := ⟨.slice 5, 1, 24, [.nil 5 1]⟩
theorem ti45_ok : TIok Tryd.prog 45 ti45 := ⟨by kernel_rfl, by kernel_rfl, by kernel_rfl⟩
def ti51 : TI := ⟨.int .u64, 1, 8, [.raw (.int .u64 0)]⟩
theorem ti51_ok : TIok Tryd.prog 51 ti51 := ⟨by kernel_rfl, by kernel_rfl, by kernel_rfl⟩
def ti53 : TI := ⟨.slice 4, 1, 24, [.nil 4 1]⟩
theorem ti53_ok : TIok Tryd.prog 53 ti53 := ⟨by kernel_rfl, by kernel_rfl, by kernel_rfl⟩
def ti55 : TI := ⟨.struct [(29, 0), (3, 3), (3, 4)], 5, 88, [.nil 21 1, .nil 64 3, .nil 64 3, .raw (.int .i64 0), .raw (.int .i64 0)]⟩
theorem ti55_ok : TIok Tryd.prog 55 ti55 := ⟨by kernel_rfl, by kernel_rfl, by kernel_rfl⟩
def ti56 : TI := ⟨.struct [(29, 0), (3, 3), (3, 4)], 5, 88, [.nil 21 1, .nil 64 3, .nil 64 3, .raw (.int .i64 0), .raw (.int .i64 0)]⟩
theorem ti56_ok : TIok Tryd.prog 56 ti56 := ⟨by kernel_rfl, by kernel_rfl, by kernel_rfl⟩
def ti63 : TI := ⟨.struct [(3, 0), (24, 1), (24, 2)], 3, 56, [.raw (.int .i64 0), .nil 21 1, .nil 21 1]⟩
theorem ti63_ok : TIok Tryd.prog 63 ti63 := ⟨by kernel_rfl, by kernel_rfl, by kernel_rfl⟩
def ti64 : TI := ⟨.struct [(3, 0), (24, 1), (24, 2)], 3, 56, [.raw (.int .i64 0), .nil 21 1, .nil 21 1]⟩
theorem ti64_ok : TIok Tryd.prog 64 ti64 := ⟨by kernel_rfl, by kernel_rfl, by kernel_rfl⟩
def ti66 : TI := ⟨.arr 3 3, 3, 24, [.raw (.int .i64 0), .raw (.int .i64 0), .raw (.int .i64 0)]⟩
theorem ti66_ok : TIok Tryd.prog 66 ti66 := ⟨by kernel_rfl, by kernel_rfl, by kernel_rfl⟩
def ti85 : TI := ⟨.iface, 1, 16, [.raw (.nilIface)]⟩
theorem ti85_ok : TIok Tryd.prog 85 ti85 := ⟨by kernel_rfl, by kernel_rfl, by kernel_rfl⟩
def ti86 : TI := ⟨.iface, 1, 16, [.raw (.nilIface)]⟩
theorem ti86_ok : TIok Tryd.prog 86 ti86 := ⟨by kernel_rfl, by kernel_rfl, by kernel_rfl⟩
def ti106 : TI := ⟨.slice 32, 1, 24, [.nil 32 1]⟩
theorem ti106_ok : TIok Tryd.prog 106 ti106 := ⟨by kernel_rfl, by kernel_rfl, by kernel_rfl⟩
def ti107 : TI := ⟨.ptr 109, 1, 8, [.raw (.pointer none)]⟩
theorem ti107_ok : TIok Tryd.prog 107 ti107 := ⟨by kernel_rfl, by kernel_rfl, by kernel_rfl⟩
def ti109 : TI := ⟨.struct [(32, 0)], 1, 8, [.raw (.int .i64 0)]⟩
theorem ti109_ok : TIok Tryd.prog 109 ti109 := ⟨by kernel_rfl, by kernel_rfl, by kernel_rfl⟩
def ti111 : TI := ⟨.ptr 107, 1, 8, [.raw (.pointer none)]⟩
theorem ti111_ok : TIok Tryd.prog 111 ti111 := ⟨by kernel_rfl, by kernel_rfl, by kernel_rfl⟩
def ti116 : TI := ⟨.other, 1, 8, [.raw (.nilFunc)]⟩
theorem ti116_ok : TIok Tryd.prog 116 ti116 := ⟨by kernel_rfl, by kernel_rfl, by kernel_rfl⟩
def ti119 : TI := ⟨.ptr 121, 1, 8, [.raw (.pointer none)]⟩
theorem ti119_ok : TIok Tryd.prog 119 ti119 := ⟨by kernel_rfl, by kernel_rfl, by kernel_rfl⟩
def ti121 : TI := ⟨.struct [(45, 0)], 1, 24, [.nil 5 1]⟩
theorem ti121_ok : TIok Tryd.prog 121 ti121 := ⟨by kernel_rfl, by kernel_rfl, by kernel_rfl⟩
def ti126 : TI := ⟨.other, 1, 8, [.raw (.pointer none)]⟩
theorem ti126_ok : TIok Tryd.prog 126 ti126 := ⟨by kernel_rfl, by kernel_rfl, by kernel_rfl⟩
def ti127 : TI := ⟨.int .u64, 1, 8, [.raw (.int .u64 0)]⟩
theorem ti127_ok : TIok Tryd.prog 127 ti127 := ⟨by kernel_rfl, by kernel_rfl, by kernel_rfl⟩
def ti129 : TI := ⟨.struct [(17, 0), (126, 1), (127, 2)], 3, 24, [.raw (.pointer none), .raw (.pointer none), .raw (.int .u64 0)]⟩
theorem ti129_ok : TIok Tryd.prog 129 ti129 := ⟨by kernel_rfl, by kernel_rfl, by kernel_rfl⟩
def ti132 : TI := ⟨.iface, 1, 16, [.raw (.nilIface)]⟩
theorem ti132_ok : TIok Tryd.prog 132 ti132 := ⟨by kernel_rfl, by kernel_rfl, by kernel_rfl⟩
def ti134 : TI := ⟨.int .u8, 1, 1, [.raw (.int .u8 0)]⟩
theorem ti134_ok : TIok Tryd.prog 134 ti134 := ⟨by kernel_rfl, by kernel_rfl, by kernel_rfl⟩
def ti155 : TI := ⟨.slice 86, 1, 24, [.nil 86 1]⟩
theorem ti155_ok : TIok Tryd.prog 155 ti155 := ⟨by kernel_rfl, by kernel_rfl, by kernel_rfl⟩
def T : Tab
  | 2 => some ti2
  | 3 => some ti3
  | 4 => some ti4
  | 5 => some ti5
  | 6 => some ti6
  | 7 => some ti7
  | 8 => some ti8
  | 9 => some ti9
  | 10 => some ti10
  | 11 => some ti11
  | 12 => some ti12
  | 13 => some ti13
  | 14 => some ti14
  | 15 => some ti15
  | 16 => some ti16
  | 17 => some ti17
  | 18 => some ti18
  | 19 => some ti19
  | 20 => some ti20
  | 21 => some ti21
  | 22 => some ti22
  | 23 => some ti23
  | 24 => some ti24
  | 25 => some ti25
  | 26 => some ti26
  | 27 => some ti27
  | 28 => some ti28
  | 29 => some ti29
  | 32 => some ti32
  | 44 => some ti44
  | 45 => some ti45
  | 51 => some ti51
  | 53 => some ti53
  | 55 => some ti55
  | 56 => some ti56
  | 63 => some ti63
  | 64 => some ti64
  | 66 => some ti66
  | 85 => some ti85
  | 86 => some ti86
  | 106 => some ti106
  | 107 => some ti107
  | 109 => some ti109
  | 111 => some ti111
  | 116 => some ti116
  | 119 => some ti119
  | 121 => some ti121
  | 126 => some ti126
  | 127 => some ti127
  | 129 => some ti129
  | 132 => some ti132
  | 134 => some ti134
  | 155 => some ti155
  | _ => none
def ET := And.intro @ti2.eq_1 <| And.intro @ti3.eq_1 <| And.intro @ti4.eq_1 <| And.intro @ti5.eq_1 <| And.intro @ti6.eq_1 <| And.intro @ti7.eq_1 <| And.intro @ti8.eq_1 <| And.intro @ti9.eq_1 <| And.intro @ti10.eq_1 <| And.intro @ti11.eq_1 <| And.intro @ti12.eq_1 <| And.intro @ti13.eq_1 <| And.intro @ti14.eq_1 <| And.intro @ti15.eq_1 <| And.intro @ti16.eq_1 <| And.intro @ti17.eq_1 <| And.intro @ti18.eq_1 <| And.intro @ti19.eq_1 <| And.intro @ti20.eq_1 <| And.intro @ti21.eq_1 <| And.intro @ti22.eq_1 <| And.intro @ti23.eq_1 <| And.intro @ti24.eq_1 <| And.intro @ti25.eq_1 <| And.intro @ti26.eq_1 <| And.intro @ti27.eq_1 <| And.intro @ti28.eq_1 <| And.intro @ti29.eq_1 <| And.intro @ti32.eq_1 <| And.intro @ti44.eq_1 <| And.intro @ti45.eq_1 <| And.intro @ti51.eq_1 <| And.intro @ti53.eq_1 <| And.intro @ti55.eq_1 <| And.intro @ti56.eq_1 <| And.intro @ti63.eq_1 <| And.intro @ti64.eq_1 <| And.intro @ti66.eq_1 <| And.intro @ti85.eq_1 <| And.intro @ti86.eq_1 <| And.intro @ti106.eq_1 <| And.intro @ti107.eq_1 <| And.intro @ti109.eq_1 <| And.intro @ti111.eq_1 <| And.intro @ti116.eq_1 <| And.intro @ti119.eq_1 <| And.intro @ti121.eq_1 <| And.intro @ti126.eq_1 <| And.intro @ti127.eq_1 <| And.intro @ti129.eq_1 <| And.intro @ti132.eq_1 <| And.intro @ti134.eq_1 <| @ti155.eq_1
theorem T_ok : Tok Tryd.prog T := by
  intro t i h
  unfold T at h
  split at h
  · cases h; exact ti2_ok
  · cases h; exact ti3_ok
  · cases h; exact ti4_ok
  · cases h; exact ti5_ok
  · cases h; exact ti6_ok
  · cases h; exact ti7_ok
  · cases h; exact ti8_ok
  · cases h; exact ti9_ok
  · cases h; exact ti10_ok
  · cases h; exact ti11_ok
  · cases h; exact ti12_ok
  · cases h; exact ti13_ok
  · cases h; exact ti14_ok
  · cases h; exact ti15_ok
  · cases h; exact ti16_ok
  · cases h; exact ti17_ok
  · cases h; exact ti18_ok
  · cases h; exact ti19_ok
  · cases h; exact ti20_ok
  · cases h; exact ti21_ok
  · cases h; exact ti22_ok
  · cases h; exact ti23_ok
  · cases h; exact ti24_ok
  · cases h; exact ti25_ok
  · cases h; exact ti26_ok
  · cases h; exact ti27_ok
  · cases h; exact ti28_ok
  · cases h; exact ti29_ok
  · cases h; exact ti32_ok
  · cases h; exact ti44_ok
  · cases h; exact ti45_ok
  · cases h; exact ti51_ok
  · cases h; exact ti53_ok
  · cases h; exact ti55_ok
  · cases h; exact ti56_ok
  · cases h; exact ti63_ok
  · cases h; exact ti64_ok
  · cases h; exact ti66_ok
  · cases h; exact ti85_ok
  · cases h; exact ti86_ok
  · cases h; exact ti106_ok
  · cases h; exact ti107_ok
  · cases h; exact ti109_ok
  · cases h; exact ti111_ok
  · cases h; exact ti116_ok
  · cases h; exact ti119_ok
  · cases h; exact ti121_ok
  · cases h; exact ti126_ok
  · cases h; exact ti127_ok
  · cases h; exact ti129_ok
  · cases h; exact ti132_ok
  · cases h; exact ti134_ok
  · cases h; exact ti155_ok
  · cases h
end Go.Proofs.YtdpflafjfkooeaaDoorG
