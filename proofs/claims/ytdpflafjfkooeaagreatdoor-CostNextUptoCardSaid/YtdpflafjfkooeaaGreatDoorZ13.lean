/- YtdpflafjfkooeaaGreatDoorZ13: a part of the proof, joined of its texts. -/
import Derived.Test.YtdpflafjfkooeaaGreatDoorZ12
/- The seat's types, as a table (written by gt.py, a program of this session's own). -/
namespace Go.Proofs.YtdpflafjfkooeaaGreatDoorG
open Go Go.Proofs
set_option linter.defProp false
set_option maxRecDepth 100000
def ti2 : TI := ⟨.int .i64, 1, 8, [.raw (.int .i64 0)]⟩
theorem ti2_ok : TIok Tryz.prog 2 ti2 := ⟨by kernel_rfl, by kernel_rfl, by kernel_rfl⟩
def ti3 : TI := ⟨.int .i64, 1, 8, [.raw (.int .i64 0)]⟩
theorem ti3_ok : TIok Tryz.prog 3 ti3 := ⟨by kernel_rfl, by kernel_rfl, by kernel_rfl⟩
def ti4 : TI := ⟨.bool, 1, 1, [.raw (.bool false)]⟩
theorem ti4_ok : TIok Tryz.prog 4 ti4 := ⟨by kernel_rfl, by kernel_rfl, by kernel_rfl⟩
def ti5 : TI := ⟨.int .u8, 1, 1, [.raw (.int .u8 0)]⟩
theorem ti5_ok : TIok Tryz.prog 5 ti5 := ⟨by kernel_rfl, by kernel_rfl, by kernel_rfl⟩
def ti6 : TI := ⟨.int .u8, 1, 1, [.raw (.int .u8 0)]⟩
theorem ti6_ok : TIok Tryz.prog 6 ti6 := ⟨by kernel_rfl, by kernel_rfl, by kernel_rfl⟩
def ti7 : TI := ⟨.struct [(2, 0), (3, 1), (4, 2), (6, 3)], 4, 24, [.raw (.int .i64 0), .raw (.int .i64 0), .raw (.bool false), .raw (.int .u8 0)]⟩
theorem ti7_ok : TIok Tryz.prog 7 ti7 := ⟨by kernel_rfl, by kernel_rfl, by kernel_rfl⟩
def ti8 : TI := ⟨.struct [(2, 0), (3, 1), (4, 2), (6, 3)], 4, 24, [.raw (.int .i64 0), .raw (.int .i64 0), .raw (.bool false), .raw (.int .u8 0)]⟩
theorem ti8_ok : TIok Tryz.prog 8 ti8 := ⟨by kernel_rfl, by kernel_rfl, by kernel_rfl⟩
def ti9 : TI := ⟨.str, 1, 16, [.raw (.string "".toUTF8)]⟩
theorem ti9_ok : TIok Tryz.prog 9 ti9 := ⟨by kernel_rfl, by kernel_rfl, by kernel_rfl⟩
def ti10 : TI := ⟨.str, 1, 16, [.raw (.string "".toUTF8)]⟩
theorem ti10_ok : TIok Tryz.prog 10 ti10 := ⟨by kernel_rfl, by kernel_rfl, by kernel_rfl⟩
def ti11 : TI := ⟨.str, 1, 16, [.raw (.string "".toUTF8)]⟩
theorem ti11_ok : TIok Tryz.prog 11 ti11 := ⟨by kernel_rfl, by kernel_rfl, by kernel_rfl⟩
def ti12 : TI := ⟨.int .u64, 1, 8, [.raw (.int .u64 0)]⟩
theorem ti12_ok : TIok Tryz.prog 12 ti12 := ⟨by kernel_rfl, by kernel_rfl, by kernel_rfl⟩
def ti13 : TI := ⟨.struct [(9, 0), (12, 1)], 2, 24, [.raw (.string "".toUTF8), .raw (.int .u64 0)]⟩
theorem ti13_ok : TIok Tryz.prog 13 ti13 := ⟨by kernel_rfl, by kernel_rfl, by kernel_rfl⟩
def ti14 : TI := ⟨.struct [(9, 0), (12, 1)], 2, 24, [.raw (.string "".toUTF8), .raw (.int .u64 0)]⟩
theorem ti14_ok : TIok Tryz.prog 14 ti14 := ⟨by kernel_rfl, by kernel_rfl, by kernel_rfl⟩
def ti15 : TI := ⟨.ptr 164, 1, 8, [.raw (.pointer none)]⟩
theorem ti15_ok : TIok Tryz.prog 15 ti15 := ⟨by kernel_rfl, by kernel_rfl, by kernel_rfl⟩
def ti16 : TI := ⟨.ptr 167, 1, 8, [.raw (.pointer none)]⟩
theorem ti16_ok : TIok Tryz.prog 16 ti16 := ⟨by kernel_rfl, by kernel_rfl, by kernel_rfl⟩
def ti17 : TI := ⟨.ptr 176, 1, 8, [.raw (.pointer none)]⟩
theorem ti17_ok : TIok Tryz.prog 17 ti17 := ⟨by kernel_rfl, by kernel_rfl, by kernel_rfl⟩
def ti18 : TI := ⟨.struct [(17, 0)], 1, 8, [.raw (.pointer none)]⟩
theorem ti18_ok : TIok Tryz.prog 18 ti18 := ⟨by kernel_rfl, by kernel_rfl, by kernel_rfl⟩
def ti19 : TI := ⟨.struct [(17, 0)], 1, 8, [.raw (.pointer none)]⟩
theorem ti19_ok : TIok Tryz.prog 19 ti19 := ⟨by kernel_rfl, by kernel_rfl, by kernel_rfl⟩
def ti20 : TI := ⟨.iface, 1, 16, [.raw (.nilIface)]⟩
theorem ti20_ok : TIok Tryz.prog 20 ti20 := ⟨by kernel_rfl, by kernel_rfl, by kernel_rfl⟩
def ti21 : TI := ⟨.int .i32, 1, 4, [.raw (.int .i32 0)]⟩
theorem ti21_ok : TIok Tryz.prog 21 ti21 := ⟨by kernel_rfl, by kernel_rfl, by kernel_rfl⟩
def ti22 : TI := ⟨.struct [(3, 0), (3, 1), (3, 2)], 3, 24, [.raw (.int .i64 0), .raw (.int .i64 0), .raw (.int .i64 0)]⟩
theorem ti22_ok : TIok Tryz.prog 22 ti22 := ⟨by kernel_rfl, by kernel_rfl, by kernel_rfl⟩
def ti23 : TI := ⟨.struct [(3, 0), (3, 1), (3, 2)], 3, 24, [.raw (.int .i64 0), .raw (.int .i64 0), .raw (.int .i64 0)]⟩
theorem ti23_ok : TIok Tryz.prog 23 ti23 := ⟨by kernel_rfl, by kernel_rfl, by kernel_rfl⟩
def ti24 : TI := ⟨.slice 21, 1, 24, [.nil 21 1]⟩
theorem ti24_ok : TIok Tryz.prog 24 ti24 := ⟨by kernel_rfl, by kernel_rfl, by kernel_rfl⟩
def ti25 : TI := ⟨.slice 47, 1, 24, [.nil 47 3]⟩
theorem ti25_ok : TIok Tryz.prog 25 ti25 := ⟨by kernel_rfl, by kernel_rfl, by kernel_rfl⟩
def ti26 : TI := ⟨.struct [(24, 0), (25, 1), (25, 2)], 3, 72, [.nil 21 1, .nil 47 3, .nil 47 3]⟩
theorem ti26_ok : TIok Tryz.prog 26 ti26 := ⟨by kernel_rfl, by kernel_rfl, by kernel_rfl⟩
def ti27 : TI := ⟨.struct [(24, 0), (25, 1), (25, 2)], 3, 72, [.nil 21 1, .nil 47 3, .nil 47 3]⟩
theorem ti27_ok : TIok Tryz.prog 27 ti27 := ⟨by kernel_rfl, by kernel_rfl, by kernel_rfl⟩
def ti28 : TI := ⟨.struct [(27, 0), (3, 3), (3, 4)], 5, 88, [.nil 21 1, .nil 47 3, .nil 47 3, .raw (.int .i64 0), .raw (.int .i64 0)]⟩
theorem ti28_ok : TIok Tryz.prog 28 ti28 := ⟨by kernel_rfl, by kernel_rfl, by kernel_rfl⟩
def ti29 : TI := ⟨.struct [(27, 0), (3, 3), (3, 4)], 5, 88, [.nil 21 1, .nil 47 3, .nil 47 3, .raw (.int .i64 0), .raw (.int .i64 0)]⟩
theorem ti29_ok : TIok Tryz.prog 29 ti29 := ⟨by kernel_rfl, by kernel_rfl, by kernel_rfl⟩
def ti30 : TI := ⟨.struct [(3, 0), (3, 1), (3, 2), (24, 3)], 4, 48, [.raw (.int .i64 0), .raw (.int .i64 0), .raw (.int .i64 0), .nil 21 1]⟩
theorem ti30_ok : TIok Tryz.prog 30 ti30 := ⟨by kernel_rfl, by kernel_rfl, by kernel_rfl⟩
def ti31 : TI := ⟨.struct [(3, 0), (3, 1), (3, 2), (24, 3)], 4, 48, [.raw (.int .i64 0), .raw (.int .i64 0), .raw (.int .i64 0), .nil 21 1]⟩
theorem ti31_ok : TIok Tryz.prog 31 ti31 := ⟨by kernel_rfl, by kernel_rfl, by kernel_rfl⟩
def ti35 : TI := ⟨.struct [(27, 0), (3, 3), (3, 4)], 5, 88, [.nil 21 1, .nil 47 3, .nil 47 3, .raw (.int .i64 0), .raw (.int .i64 0)]⟩
theorem ti35_ok : TIok Tryz.prog 35 ti35 := ⟨by kernel_rfl, by kernel_rfl, by kernel_rfl⟩
def ti36 : TI := ⟨.int .i64, 1, 8, [.raw (.int .i64 0)]⟩
theorem ti36_ok : TIok Tryz.prog 36 ti36 := ⟨by kernel_rfl, by kernel_rfl, by kernel_rfl⟩
def ti46 : TI := ⟨.struct [(3, 0), (24, 1), (24, 2)], 3, 56, [.raw (.int .i64 0), .nil 21 1, .nil 21 1]⟩
theorem ti46_ok : TIok Tryz.prog 46 ti46 := ⟨by kernel_rfl, by kernel_rfl, by kernel_rfl⟩
def ti47 : TI := ⟨.struct [(3, 0), (24, 1), (24, 2)], 3, 56, [.raw (.int .i64 0), .nil 21 1, .nil 21 1]⟩
theorem ti47_ok : TIok Tryz.prog 47 ti47 := ⟨by kernel_rfl, by kernel_rfl, by kernel_rfl⟩
def ti58 : TI := ⟨.iface, 1, 16, [.raw (.nilIface)]⟩
theorem ti58_ok : TIok Tryz.prog 58 ti58 := ⟨by kernel_rfl, by kernel_rfl, by kernel_rfl⟩
def ti59 : TI := ⟨.iface, 1, 16, [.raw (.nilIface)]⟩
theorem ti59_ok : TIok Tryz.prog 59 ti59 := ⟨by kernel_rfl, by kernel_rfl, by kernel_rfl⟩
def ti72 : TI := ⟨.arr 3 3, 3, 24, [.raw (.int .i64 0), .raw (.int .i64 0), .raw (.int .i64 0)]⟩
theorem ti72_ok : TIok Tryz.prog 72 ti72 := ⟨by kernel_rfl, by kernel_rfl, by kernel_rfl⟩
def ti73 : TI := ⟨.slice 5, 1, 24, [.nil 5 1]⟩
theorem ti73_ok : TIok Tryz.prog 73 ti73 := ⟨by kernel_rfl, by kernel_rfl, by kernel_rfl⟩
def ti82 : TI := ⟨.slice 36, 1, 24, [.nil 36 1]⟩
theorem ti82_ok : TIok Tryz.prog 82 ti82 := ⟨by kernel_rfl, by kernel_rfl, by kernel_rfl⟩
def ti83 : TI := ⟨.ptr 85, 1, 8, [.raw (.pointer none)]⟩
theorem ti83_ok : TIok Tryz.prog 83 ti83 := ⟨by kernel_rfl, by kernel_rfl, by kernel_rfl⟩
def ti84 : TI := ⟨.struct [(36, 0)], 1, 8, [.raw (.int .i64 0)]⟩
theorem ti84_ok : TIok Tryz.prog 84 ti84 := ⟨by kernel_rfl, by kernel_rfl, by kernel_rfl⟩
def ti85 : TI := ⟨.struct [(36, 0)], 1, 8, [.raw (.int .i64 0)]⟩
theorem ti85_ok : TIok Tryz.prog 85 ti85 := ⟨by kernel_rfl, by kernel_rfl, by kernel_rfl⟩
def ti87 : TI := ⟨.ptr 83, 1, 8, [.raw (.pointer none)]⟩
theorem ti87_ok : TIok Tryz.prog 87 ti87 := ⟨by kernel_rfl, by kernel_rfl, by kernel_rfl⟩
def ti108 : TI := ⟨.other, 1, 8, [.raw (.pointer none)]⟩
theorem ti108_ok : TIok Tryz.prog 108 ti108 := ⟨by kernel_rfl, by kernel_rfl, by kernel_rfl⟩
def ti109 : TI := ⟨.int .u64, 1, 8, [.raw (.int .u64 0)]⟩
theorem ti109_ok : TIok Tryz.prog 109 ti109 := ⟨by kernel_rfl, by kernel_rfl, by kernel_rfl⟩
def ti111 : TI := ⟨.struct [(17, 0), (108, 1), (109, 2)], 3, 24, [.raw (.pointer none), .raw (.pointer none), .raw (.int .u64 0)]⟩
theorem ti111_ok : TIok Tryz.prog 111 ti111 := ⟨by kernel_rfl, by kernel_rfl, by kernel_rfl⟩
def ti114 : TI := ⟨.iface, 1, 16, [.raw (.nilIface)]⟩
theorem ti114_ok : TIok Tryz.prog 114 ti114 := ⟨by kernel_rfl, by kernel_rfl, by kernel_rfl⟩
def ti116 : TI := ⟨.int .u8, 1, 1, [.raw (.int .u8 0)]⟩
theorem ti116_ok : TIok Tryz.prog 116 ti116 := ⟨by kernel_rfl, by kernel_rfl, by kernel_rfl⟩
def ti125 : TI := ⟨.ptr 127, 1, 8, [.raw (.pointer none)]⟩
theorem ti125_ok : TIok Tryz.prog 125 ti125 := ⟨by kernel_rfl, by kernel_rfl, by kernel_rfl⟩
def ti127 : TI := ⟨.struct [(73, 0)], 1, 24, [.nil 5 1]⟩
theorem ti127_ok : TIok Tryz.prog 127 ti127 := ⟨by kernel_rfl, by kernel_rfl, by kernel_rfl⟩
def ti146 : TI := ⟨.slice 59, 1, 24, [.nil 59 1]⟩
theorem ti146_ok : TIok Tryz.prog 146 ti146 := ⟨by kernel_rfl, by kernel_rfl, by kernel_rfl⟩
def ti155 : TI := ⟨.other, 1, 8, [.raw (.nilFunc)]⟩
theorem ti155_ok : TIok Tryz.prog 155 ti155 := ⟨by kernel_rfl, by kernel_rfl, by kernel_rfl⟩
def T : Tab
  | 2 => some ti2
  | 3 => some ti3
  | 4 => some ti4
  | 5 => some ti5
  | 6 => some ti6
  | 7 => some ti7
  | 8 => some ti8
  | 9 => some ti9
  | 10 => some ti10
  | 11 => some ti11
  | 12 => some ti12
  | 13 => some ti13
  | 14 => some ti14
  | 15 => some ti15
  | 16 => some ti16
  | 17 => some ti17
  | 18 => some ti18
  | 19 => some ti19
  | 20 => some ti20
  | 21 => some ti21
  | 22 => some ti22
  | 23 => some ti23
  | 24 => some ti24
  | 25 => some ti25
  | 26 => some ti26
  | 27 => some ti27
  | 28 => some ti28
  | 29 => some ti29
  | 30 => some ti30
  | 31 => some ti31
  | 35 => some ti35
  | 36 => some ti36
  | 46 => some ti46
  | 47 => some ti47
  | 58 => some ti58
  | 59 => some ti59
  | 72 => some ti72
  | 73 => some ti73
  | 82 => some ti82
  | 83 => some ti83
  | 84 => some ti84
  | 85 => some ti85
  | 87 => some ti87
  | 108 => some ti108
  | 109 => some ti109
  | 111 => some ti111
  | 114 => some ti114
  | 116 => some ti116
  | 125 => some ti125
  | 127 => some ti127
  | 146 => some ti146
  | 155 => some ti155
  | _ => none
def ET := And.intro @ti2.eq_1 <| And.intro @ti3.eq_1 <| And.intro @ti4.eq_1 <| And.intro @ti5.eq_1 <| And.intro @ti6.eq_1 <| And.intro @ti7.eq_1 <| And.intro @ti8.eq_1 <| And.intro @ti9.eq_1 <| And.intro @ti10.eq_1 <| And.intro @ti11.eq_1 <| And.intro @ti12.eq_1 <| And.intro @ti13.eq_1 <| And.intro @ti14.eq_1 <| And.intro @ti15.eq_1 <| And.intro @ti16.eq_1 <| And.intro @ti17.eq_1 <| And.intro @ti18.eq_1 <| And.intro @ti19.eq_1 <| And.intro @ti20.eq_1 <| And.intro @ti21.eq_1 <| And.intro @ti22.eq_1 <| And.intro @ti23.eq_1 <| And.intro @ti24.eq_1 <| And.intro @ti25.eq_1 <| And.intro @ti26.eq_1 <| And.intro @ti27.eq_1 <| And.intro @ti28.eq_1 <| And.intro @ti29.eq_1 <| And.intro @ti30.eq_1 <| And.intro @ti31.eq_1 <| And.intro @ti35.eq_1 <| And.intro @ti36.eq_1 <| And.intro @ti46.eq_1 <| And.intro @ti47.eq_1 <| And.intro @ti58.eq_1 <| And.intro @ti59.eq_1 <| And.intro @ti72.eq_1 <| And.intro @ti73.eq_1 <| And.intro @ti82.eq_1 <| And.intro @ti83.eq_1 <| And.intro @ti84.eq_1 <| And.intro @ti85.eq_1 <| And.intro @ti87.eq_1 <| And.intro @ti108.eq_1 <| And.intro @ti109.eq_1 <| And.intro @ti111.eq_1 <| And.intro @ti114.eq_1 <| And.intro @ti116.eq_1 <| And.intro @ti125.eq_1 <| And.intro @ti127.eq_1 <| And.intro @ti146.eq_1 <| @ti155.eq_1
theorem T_ok : Tok Tryz.prog T := by
  intro t i h
  unfold T at h
  split at h
  · cases h; exact ti2_ok
  · cases h; exact ti3_ok
  · cases h; exact ti4_ok
  · cases h; exact ti5_ok
  · cases h; exact ti6_ok
  · cases h; exact ti7_ok
  · cases h; exact ti8_ok
  · cases h; exact ti9_ok
  · cases h; exact ti10_ok
  · cases h; exact ti11_ok
  · cases h; exact ti12_ok
  · cases h; exact ti13_ok
  · cases h; exact ti14_ok
  · cases h; exact ti15_ok
  · cases h; exact ti16_ok
  · cases h; exact ti17_ok
  · cases h; exact ti18_ok
  · cases h; exact ti19_ok
  · cases h; exact ti20_ok
  · cases h; exact ti21_ok
  · cases h; exact ti22_ok
  · cases h; exact ti23_ok
  · cases h; exact ti24_ok
  · cases h; exact ti25_ok
  · cases h; exact ti26_ok
  · cases h; exact ti27_ok
  · cases h; exact ti28_ok
  · cases h; exact ti29_ok
  · cases h; exact ti30_ok
  · cases h; exact ti31_ok
  · cases h; exact ti35_ok
  · cases h; exact ti36_ok
  · cases h; exact ti46_ok
  · cases h; exact ti47_ok
  · cases h; exact ti58_ok
  · cases h; exact ti59_ok
  · cases h; exact ti72_ok
  · cases h; exact ti73_ok
  · cases h; exact ti82_ok
  · cases h; exact ti83_ok
  · cases h; exact ti84_ok
  · cases h; exact ti85_ok
  · cases h; exact ti87_ok
  · cases h; exact ti108_ok
  · cases h; exact ti109_ok
  · cases h; exact ti111_ok
  · cases h; exact ti114_ok
  · cases h; exact ti116_ok
  · cases h; exact ti125_ok
  · cases h; exact ti127_ok
  · cases h; exact ti146_ok
  · cases h; exact ti155_ok
  · cases h
end Go.Proofs.YtdpflafjfkooeaaGreatDoorG
/- G17: what is known of functions: whatever has been shown of them. -/
namespace Go.Proofs.YtdpflafjfkooeaaGreatDoorG
open Go Go.RowKit Go.Proofs
set_option linter.unusedSimpArgs false
/-- Functions that are handed an own row, as their first argument. -/
def mvB : Nat → Bool
  | 47 => true
  | 50 => true
  | 49 => true
  | _ => false
/-- Functions that are lent own variables. -/
def bxB : Nat → Bool
  | 79 => true
  | 67 => true
  | 68 => true
  | 70 => true
  | 69 => true
  | 66 => true
  | 65 => true
  | _ => false
/-- Functions that sort an own row in its place. -/
def sxB : Nat → Bool
  | _ => false
/-- Functions that are lent own variables together with own rows. -/
def rxB : Nat → Bool
  | 68 => true
  | 66 => true
  | 65 => true
  | _ => false
/-- Every function of which a contract is shown. -/
def orc (P : Program) : Orc := ⟨fun f args K => ∃ res rows fr, CallOk P f args res rows fr ∧ K res rows fr, fun gf caps K => ∃ els, IterOk P gf caps els ∧ K els, fun f row args K => ∃ res rows, CallM P f row args res rows ∧ K res rows, mvB, fun f bs args K => ∃ out, CallB P f bs args out ∧ K out, bxB, fun f row args K => ∃ ys, CallS P f row args ys ∧ K ys, sxB, fun f bs rs args K => ∃ out, CallR P f bs rs args out ∧ K out, rxB⟩
theorem orc_mv (P f) : (orc P).mv f = mvB f := rfl
theorem orc_bx (P f) : (orc P).bx f = bxB f := rfl
theorem orc_sx (P f) : (orc P).sx f = sxB f := rfl
theorem orc_rx (P f) : (orc P).rx f = rxB f := rfl
theorem orc_rc {P : Program} {f bs rs args K out} (h : CallR P f bs rs args out) (hK : K out) : (orc P).r f bs rs args K := ⟨out, h, hK⟩
theorem orc_ok (P : Program) : OrcOk P (orc P) := ⟨fun _ _ _ _ h => h, fun _ _ _ _ h => h, fun _ _ _ _ _ h => h, fun _ _ _ _ h => h, fun _ _ _ h => h, fun _ _ _ h => h⟩
theorem orc_bc {P : Program} {f bs args K out} (h : CallB P f bs args out) (hK : K out) : (orc P).b f bs args K := ⟨out, h, hK⟩
theorem orc_bi {P : Program} {f bs args K} {c : Prop} [Decidable c] {o1 o2 : Out} (h : CallB P f bs args (if c then o1 else o2)) (h1 : c → K o1) (h2 : ¬ c → K o2) : (orc P).b f bs args K := by
  refine ⟨_, h, ?_⟩
  split
  · exact h1 ‹_›
  · exact h2 ‹_›
theorem orc_m {P : Program} {f row args K res rows} (h : CallM P f row args res rows) (hK : K res rows) : (orc P).m f row args K := ⟨res, rows, h, hK⟩
theorem orc_i {P : Program} {f args K res rows fr} (h : CallOk P f args res rows fr) (hK : K res rows fr) : (orc P).f f args K := ⟨res, rows, fr, h, hK⟩
theorem orc_b {P : Program} {f args K b rows fr} (h : CallOk P f args (bo b) rows fr) (h1 : b = true → K (bo true) rows fr) (h2 : b = false → K (bo false) rows fr) : (orc P).f f args K := by
  refine ⟨_, _, _, h, ?_⟩
  cases b
  · exact h2 rfl
  · exact h1 rfl
theorem orc_it {P : Program} {gf caps els} (h : IterOk P gf caps els) (K : List (List X) → Prop) (hK : K els) : (orc P).it gf caps K := ⟨els, h, hK⟩
/-- Laws that each step uses, in one. -/
theorem EB : type_of% (And.intro @orc_mv (And.intro @noO_mv (And.intro @orc_bx (And.intro @noO_bx (And.intro @orc_sx (And.intro @noO_sx (And.intro @orc_rx (And.intro @noO_rx (And.intro @Bool.or_false (And.intro @Bool.or_true (And.intro @Int.toNat_natCast (And.intro @Nat.div_one (And.intro @Nat.mul_one (And.intro @SB (And.intro @List.not_mem_nil.{0} @ne_eq.{1}))))))))))))))) := ⟨@orc_mv, @noO_mv, @orc_bx, @noO_bx, @orc_sx, @noO_sx, @orc_rx, @noO_rx, @Bool.or_false, @Bool.or_true, @Int.toNat_natCast, @Nat.div_one, @Nat.mul_one, @SB, @List.not_mem_nil.{0}, @ne_eq.{1}⟩
theorem mixed : Tryz.prog.follows .mixedOrders = true := by kernel_rfl
end Go.Proofs.YtdpflafjfkooeaaGreatDoorG
namespace Go.Proofs.YtdpflafjfkooeaaGreatDoorG
open Go Go.RowKit Go.Proofs
set_option linter.unusedSimpArgs false
abbrev i32 (n : Int) : X := .p (.one (.v (.raw (.int .i32 n))))
abbrev fnv (f : Nat) : X := .p (.one (.v (.raw (.func (.func f) #[] #[]))))
/-- Runes. -/
def rn (l : List Int) : List SV := l.map fun n => .raw (.int .i32 n)
theorem rn_len (l : List Int) : (rn l).length = l.length := by simp [rn]
theorem tv_rn {l : List Int} {j : Nat} (h : j < l.length) : (List.map TV.v (rn l)).getD j .dead = .v (.raw (.int .i32 (l.getD j 0))) := by
  simp [rn, List.getD, List.getElem?_eq_getElem h]
theorem rn_app (a b : List Int) : rn (a ++ b) = rn a ++ rn b := by simp [rn]
abbrev R32 (n : Int) : Prop := -2147483648 ≤ n ∧ n ≤ 2147483647
set_option maxRecDepth 10000 in
theorem spliced_ok (l came : List SV) (at_ gone : Int) (h0 : 0 ≤ at_) (h1 : 0 ≤ gone) (h2 : at_ + gone ≤ l.length) (h3 : l.length + came.length ≤ 2000000) :
    CallOk Tryz.prog 53 [sl l, i64 at_, i64 gone, sl came] (.p (.one (.sr 0))) [(21, 1, l.take at_.toNat ++ came ++ l.drop (at_ + gone).toNat)] false := by
  have c1 := cut_len (e := 1) rfl (Int.le_refl 0) h0 (by omega : at_ ≤ l.length)
  have c2 := cut_len (e := 1) rfl (by omega) h2 (Int.le_refl (l.length : Int))
  refine fn_ok' T_ok (noO_ok _) mixed Tryz.func53 rfl (by kernel_rfl) (lv [[0, 1, 2, 3], [0, 1, 2, 3, 9], [8]]) 31 rfl (by simp) rfl (by simp) ?_
  simp only [argsG, Nat.zero_add, Nat.reduceAdd]
  repeat' first
    | ((first
        | ((with_reducible refine vR_cons (by decide) ?_); generalize hk : KtR _ _ _ _ _ _ _ _ _ _ = k)
        | ((first
        | with_reducible refine vOps_cons' ?_) <;> generalize hk : Kt _ _ _ _ _ _ _ _ _ = k)) <;> (simp only [Tryz.f53, lv, E1, E2, E5, ET, T, mvB, bxB, sxB, rxB, fwd, fwds, inv, mOk, EB, simprocAttr]; (try simp (disch := omega) only [wrap_in, Int.toNat_natCast]); subst hk))
    | with_reducible first | refine Kt_p ?_ | refine Kt_i (by kernel_rfl) ?_ | refine Kr_f (by kernel_rfl) ?_
    | (with_reducible refine Kr_t ?_; simp only [List.length_append, List.length_cons, List.length_nil, Nat.reduceAdd, Nat.reduceSub, List.drop_succ_cons, List.drop_zero])
    | with_reducible first | refine vR_nil ?_ | refine KtR_i (by kernel_rfl) ?_ | refine KrR_i (by kernel_rfl) ?_ | refine vR_skip (by decide) ?_
    | ((with_reducible refine vB_i ?_ ?_) <;> intro _ <;> (first | (exfalso; omega) | (exact absurd trivial ‹¬True›) | (try dsimp only [])))
    | ((with_reducible refine vOps_nil' ?_); refine Kr_i (by kernel_rfl) ?_; generalize hk : plain _ _ = G; simp only [lv, E3, E2, E5, rawX, deadX, EB, simprocAttr] at hk; subst hk)
    | with_reducible refine vSeq_i ?_
    | with_reducible first | refine vRegion_i (by kernel_rfl) ?_ | refine Kv_i ?_
    | ((with_reducible apply vStrK_i); (focus (rfl; done)))
    | ((with_reducible refine imp_i ?_); intro _)
    | with_reducible first | refine Ks_n ?_ | refine Ks_r ?_ | refine Ks_e ?_ | refine Kl_e ?_ | refine Kx_n ?_ | refine Kl_r ?_ | refine vRet_i ?_ | refine vSkip_i ?_ | refine vExit_i ?_ | refine vBlock_i ?_ | refine Ks_p ?_ | refine Kl_p ?_ | refine blk_p ?_ | exact Kb_p | refine vGoto_i ?_ | refine vLabel_i ?_ | refine Ks_g ?_ | refine Kl_g ?_ | refine blk_g ?_ | refine jmp_g ?_ | refine jmp_n ?_ | refine jmp_r ?_ | refine nog_n ?_ | refine nog_r ?_ | refine blk_n ?_ | refine blk_r ?_ | refine blk_e ?_ | refine blk_o (by decide) ?_ | refine cp_t ?_ | refine cp_f ?_
    | ((with_reducible apply vCond_x); (focus (simp only [lv, E1, E2, E5, ET, T, mvB, bxB, sxB, rxB, fwd, fwds, inv, mOk, EB, simprocAttr]; with_reducible first | exact Eq.refl (bo true) | exact Eq.refl (bo false))))
    | ((with_reducible refine And.intro ?_ ?_); (focus (try omega)))
  all_goals first | omega | (simp only [List.length_append]; omega) | skip
  refine Kf_r ?_
  simp only [Tryz.f53, E4, E3, E2, E5, rawX, deadX, ET, T, EB, simprocAttr, cut_to _ _ h0, cut_from l _ (by omega : 0 ≤ at_ + gone)]
set_option maxRecDepth 10000 in
theorem clone_ok (l : List SV) (h : l.length ≤ 2000000) : CallOk Tryz.prog 54 [sl l] (.p (.one (.sr 0))) [(21, 1, l)] false := by
  refine fn_nil' T_ok (noO_ok _) mixed Tryz.func54 rfl (by kernel_rfl) (lv [[0], [0, 4], [2], [2]]) 21 8 rfl (by simp) rfl (by simp) (fun hl => ?_) ?_
  · subst hl
    simp only [argsG, Nat.zero_add, Nat.reduceAdd]
    repeat' first
      | ((first
          | ((with_reducible refine vR_cons (by decide) ?_); generalize hk : KtR _ _ _ _ _ _ _ _ _ _ = k)
          | ((first
          | with_reducible refine vOps_cons' ?_) <;> generalize hk : Kt _ _ _ _ _ _ _ _ _ = k)) <;> (simp only [Tryz.f54, lv, E1, E2, E5, ET, T, mvB, bxB, sxB, rxB, fwd, fwds, inv, mOk, EB, simprocAttr]; (try simp (disch := omega) only [wrap_in, Int.toNat_natCast]); subst hk))
      | with_reducible first | refine Kt_p ?_ | refine Kt_i (by kernel_rfl) ?_ | refine Kr_f (by kernel_rfl) ?_
      | (with_reducible refine Kr_t ?_; simp only [List.length_append, List.length_cons, List.length_nil, Nat.reduceAdd, Nat.reduceSub, List.drop_succ_cons, List.drop_zero])
      | with_reducible first | refine vR_nil ?_ | refine KtR_i (by kernel_rfl) ?_ | refine KrR_i (by kernel_rfl) ?_ | refine vR_skip (by decide) ?_
      | ((with_reducible refine vB_i ?_ ?_) <;> intro _ <;> (first | (exfalso; omega) | (exact absurd trivial ‹¬True›) | (try dsimp only [])))
      | ((with_reducible refine vOps_nil' ?_); refine Kr_i (by kernel_rfl) ?_; generalize hk : plain _ _ = G; simp only [lv, E3, E2, E5, rawX, deadX, EB, simprocAttr] at hk; subst hk)
      | with_reducible refine vSeq_i ?_
      | with_reducible first | refine vRegion_i (by kernel_rfl) ?_ | refine Kv_i ?_
      | ((with_reducible apply vStrK_i); (focus (rfl; done)))
      | ((with_reducible refine imp_i ?_); intro _)
      | with_reducible first | refine Ks_n ?_ | refine Ks_r ?_ | refine Ks_e ?_ | refine Kl_e ?_ | refine Kx_n ?_ | refine Kl_r ?_ | refine vRet_i ?_ | refine vSkip_i ?_ | refine vExit_i ?_ | refine vBlock_i ?_ | refine Ks_p ?_ | refine Kl_p ?_ | refine blk_p ?_ | exact Kb_p | refine vGoto_i ?_ | refine vLabel_i ?_ | refine Ks_g ?_ | refine Kl_g ?_ | refine blk_g ?_ | refine jmp_g ?_ | refine jmp_n ?_ | refine jmp_r ?_ | refine nog_n ?_ | refine nog_r ?_ | refine blk_n ?_ | refine blk_r ?_ | refine blk_e ?_ | refine blk_o (by decide) ?_ | refine cp_t ?_ | refine cp_f ?_
      | ((with_reducible apply vCond_x); (focus (simp only [lv, E1, E2, E5, ET, T, mvB, bxB, sxB, rxB, fwd, fwds, inv, mOk, EB, simprocAttr]; with_reducible first | exact Eq.refl (bo true) | exact Eq.refl (bo false))))
      | ((with_reducible refine And.intro ?_ ?_); (focus (try omega)))
    refine Kf_r ?_
    simp only [Tryz.f54, E4, E3, E2, E5, rawX, deadX, ET, T, EB, simprocAttr]
  · simp only [argsG, Nat.zero_add, Nat.reduceAdd]
    repeat' first
      | ((first
          | ((with_reducible refine vR_cons (by decide) ?_); generalize hk : KtR _ _ _ _ _ _ _ _ _ _ = k)
          | ((first
          | with_reducible refine vOps_cons' ?_) <;> generalize hk : Kt _ _ _ _ _ _ _ _ _ = k)) <;> (simp only [Tryz.f54, lv, E1, E2, E5, ET, T, mvB, bxB, sxB, rxB, fwd, fwds, inv, mOk, EB, simprocAttr]; (try simp (disch := omega) only [wrap_in, Int.toNat_natCast]); subst hk))
      | with_reducible first | refine Kt_p ?_ | refine Kt_i (by kernel_rfl) ?_ | refine Kr_f (by kernel_rfl) ?_
      | (with_reducible refine Kr_t ?_; simp only [List.length_append, List.length_cons, List.length_nil, Nat.reduceAdd, Nat.reduceSub, List.drop_succ_cons, List.drop_zero])
      | with_reducible first | refine vR_nil ?_ | refine KtR_i (by kernel_rfl) ?_ | refine KrR_i (by kernel_rfl) ?_ | refine vR_skip (by decide) ?_
      | ((with_reducible refine vB_i ?_ ?_) <;> intro _ <;> (first | (exfalso; omega) | (exact absurd trivial ‹¬True›) | (try dsimp only [])))
      | ((with_reducible refine vOps_nil' ?_); refine Kr_i (by kernel_rfl) ?_; generalize hk : plain _ _ = G; simp only [lv, E3, E2, E5, rawX, deadX, EB, simprocAttr] at hk; subst hk)
      | with_reducible refine vSeq_i ?_
      | with_reducible first | refine vRegion_i (by kernel_rfl) ?_ | refine Kv_i ?_
      | ((with_reducible apply vStrK_i); (focus (rfl; done)))
      | ((with_reducible refine imp_i ?_); intro _)
      | with_reducible first | refine Ks_n ?_ | refine Ks_r ?_ | refine Ks_e ?_ | refine Kl_e ?_ | refine Kx_n ?_ | refine Kl_r ?_ | refine vRet_i ?_ | refine vSkip_i ?_ | refine vExit_i ?_ | refine vBlock_i ?_ | refine Ks_p ?_ | refine Kl_p ?_ | refine blk_p ?_ | exact Kb_p | refine vGoto_i ?_ | refine vLabel_i ?_ | refine Ks_g ?_ | refine Kl_g ?_ | refine blk_g ?_ | refine jmp_g ?_ | refine jmp_n ?_ | refine jmp_r ?_ | refine nog_n ?_ | refine nog_r ?_ | refine blk_n ?_ | refine blk_r ?_ | refine blk_e ?_ | refine blk_o (by decide) ?_ | refine cp_t ?_ | refine cp_f ?_
      | ((with_reducible apply vCond_x); (focus (simp only [lv, E1, E2, E5, ET, T, mvB, bxB, sxB, rxB, fwd, fwds, inv, mOk, EB, simprocAttr]; with_reducible first | exact Eq.refl (bo true) | exact Eq.refl (bo false))))
      | ((with_reducible refine And.intro ?_ ?_); (focus (try omega)))
    all_goals first | omega | skip
    refine Kf_r ?_
    simp only [Tryz.f54, E4, E3, E2, E5, rawX, deadX, ET, T, EB, simprocAttr]
end Go.Proofs.YtdpflafjfkooeaaGreatDoorG
namespace Go.Proofs.YtdpflafjfkooeaaGreatDoorG
open Go Go.RowKit Go.Proofs
set_option linter.unusedSimpArgs false
/-- The bytes of a number; 0: none. -/
def szU (n : Int) : Int := if n < 0 ∨ n > 1114111 ∨ (55296 ≤ n ∧ n ≤ 57343) then 0 else if n < 128 then 1 else if n < 2048 then 2 else if n < 65536 then 3 else 4
set_option maxRecDepth 10000 in
theorem size_ok (n : Int) (hn : R32 n) : CallOk Tryz.prog 71 [i32 n] (i64 (szU n)) [] true := by
  refine fn_ok' T_ok (noO_ok _) mixed Tryz.func71 rfl (by kernel_rfl) (lv [[0], [0, 3], [0, 3], [0, 3], [2], [0, 14], [2], [0, 17], [2], [20], [2], [2]]) 23 rfl (by simp) rfl (by simp [X.all, PX.all, TV.rawR, SV.isRaw]) ?_
  simp only [argsG, Nat.zero_add, Nat.reduceAdd]
  repeat' first
    | ((first
        | ((with_reducible refine vR_cons (by decide) ?_); generalize hk : KtR _ _ _ _ _ _ _ _ _ _ = k)
        | ((first
        | with_reducible refine vOps_cons' ?_) <;> generalize hk : Kt _ _ _ _ _ _ _ _ _ = k)) <;> (simp only [Tryz.f71, lv, E1, E2, E5, ET, T, mvB, bxB, sxB, rxB, fwd, fwds, inv, mOk, EB, simprocAttr]; (try simp (disch := omega) only [wrap_in, Int.toNat_natCast]); subst hk))
    | with_reducible first | refine Kt_p ?_ | refine Kt_i (by kernel_rfl) ?_ | refine Kr_f (by kernel_rfl) ?_
    | (with_reducible refine Kr_t ?_; simp only [List.length_append, List.length_cons, List.length_nil, Nat.reduceAdd, Nat.reduceSub, List.drop_succ_cons, List.drop_zero])
    | with_reducible first | refine vR_nil ?_ | refine KtR_i (by kernel_rfl) ?_ | refine KrR_i (by kernel_rfl) ?_ | refine vR_skip (by decide) ?_
    | ((with_reducible refine vB_i ?_ ?_) <;> intro _ <;> (first | (exfalso; omega) | (exact absurd trivial ‹¬True›) | (try dsimp only [])))
    | ((with_reducible refine vOps_nil' ?_); refine Kr_i (by kernel_rfl) ?_; generalize hk : plain _ _ = G; simp only [lv, E3, E2, E5, rawX, deadX, EB, simprocAttr] at hk; subst hk)
    | with_reducible refine vSeq_i ?_
    | with_reducible first | refine vRegion_i (by kernel_rfl) ?_ | refine Kv_i ?_
    | ((with_reducible apply vStrK_i); (focus (rfl; done)))
    | ((with_reducible refine imp_i ?_); intro _)
    | with_reducible first | refine Ks_n ?_ | refine Ks_r ?_ | refine Ks_e ?_ | refine Kl_e ?_ | refine Kx_n ?_ | refine Kl_r ?_ | refine vRet_i ?_ | refine vSkip_i ?_ | refine vExit_i ?_ | refine vBlock_i ?_ | refine Ks_p ?_ | refine Kl_p ?_ | refine blk_p ?_ | exact Kb_p | refine vGoto_i ?_ | refine vLabel_i ?_ | refine Ks_g ?_ | refine Kl_g ?_ | refine blk_g ?_ | refine jmp_g ?_ | refine jmp_n ?_ | refine jmp_r ?_ | refine nog_n ?_ | refine nog_r ?_ | refine blk_n ?_ | refine blk_r ?_ | refine blk_e ?_ | refine blk_o (by decide) ?_ | refine cp_t ?_ | refine cp_f ?_
    | ((with_reducible apply vCond_x); (focus (simp only [lv, E1, E2, E5, ET, T, mvB, bxB, sxB, rxB, fwd, fwds, inv, mOk, EB, simprocAttr]; with_reducible first | exact Eq.refl (bo true) | exact Eq.refl (bo false))))
    | ((with_reducible refine And.intro ?_ ?_); (focus (try omega)))
  all_goals refine Kf_r ?_
  all_goals simp only [Tryz.f71, E4, E3, E2, E5, rawX, deadX, ET, T, EB, simprocAttr]
  all_goals (unfold szU; (repeat' split) <;> first | trivial | (exfalso; omega))
set_option maxRecDepth 10000 in
theorem size1_ok (n : Int) (hn : R32 n) : CallOk Tryz.prog 64 [i32 n] (i64 (szU n)) [] true := by
  refine fn_ok' T_ok (noO_ok _) mixed Tryz.func64 rfl (by kernel_rfl) (lv [[0], [3], [3, 19], [2], [3, 21], [2], [3, 23], [2], [25], [2], [2]]) 26 rfl (by simp) rfl (by simp [X.all, PX.all, TV.rawR, SV.isRaw]) ?_
  simp only [argsG, Nat.zero_add, Nat.reduceAdd]
  repeat' first
    | ((first
        | ((with_reducible refine vR_cons (by decide) ?_); generalize hk : KtR _ _ _ _ _ _ _ _ _ _ = k)
        | ((first
        | with_reducible refine vOps_cons' ?_) <;> generalize hk : Kt _ _ _ _ _ _ _ _ _ = k)) <;> (simp only [Tryz.f64, lv, E1, E2, E5, ET, T, mvB, bxB, sxB, rxB, fwd, fwds, inv, mOk, EB, simprocAttr]; (try simp (disch := omega) only [wrap_in, Int.toNat_natCast]); subst hk))
    | with_reducible first | refine Kt_p ?_ | refine Kt_i (by kernel_rfl) ?_ | refine Kr_f (by kernel_rfl) ?_
    | (with_reducible refine Kr_t ?_; simp only [List.length_append, List.length_cons, List.length_nil, Nat.reduceAdd, Nat.reduceSub, List.drop_succ_cons, List.drop_zero])
    | with_reducible first | refine vR_nil ?_ | refine KtR_i (by kernel_rfl) ?_ | refine KrR_i (by kernel_rfl) ?_ | refine vR_skip (by decide) ?_
    | ((with_reducible refine vB_i ?_ ?_) <;> intro _ <;> (first | (exfalso; omega) | (exact absurd trivial ‹¬True›) | (try dsimp only [])))
    | ((with_reducible refine vOps_nil' ?_); refine Kr_i (by kernel_rfl) ?_; generalize hk : plain _ _ = G; simp only [lv, E3, E2, E5, rawX, deadX, EB, simprocAttr] at hk; subst hk)
    | with_reducible refine vSeq_i ?_
    | with_reducible first | refine vRegion_i (by kernel_rfl) ?_ | refine Kv_i ?_
    | ((with_reducible apply vStrK_i); (focus (rfl; done)))
    | ((with_reducible refine imp_i ?_); intro _)
    | with_reducible first | refine Ks_n ?_ | refine Ks_r ?_ | refine Ks_e ?_ | refine Kl_e ?_ | refine Kx_n ?_ | refine Kl_r ?_ | refine vRet_i ?_ | refine vSkip_i ?_ | refine vExit_i ?_ | refine vBlock_i ?_ | refine Ks_p ?_ | refine Kl_p ?_ | refine blk_p ?_ | exact Kb_p | refine vGoto_i ?_ | refine vLabel_i ?_ | refine Ks_g ?_ | refine Kl_g ?_ | refine blk_g ?_ | refine jmp_g ?_ | refine jmp_n ?_ | refine jmp_r ?_ | refine nog_n ?_ | refine nog_r ?_ | refine blk_n ?_ | refine blk_r ?_ | refine blk_e ?_ | refine blk_o (by decide) ?_ | refine cp_t ?_ | refine cp_f ?_
    | ((with_reducible apply vCond_x); (focus (simp only [lv, E1, E2, E5, ET, T, mvB, bxB, sxB, rxB, fwd, fwds, inv, mOk, EB, simprocAttr]; with_reducible first | exact Eq.refl (bo true) | exact Eq.refl (bo false))))
    | ((with_reducible refine And.intro ?_ ?_); (focus (try omega)))
  all_goals refine Kf_r ?_
  all_goals simp only [Tryz.f64, E4, E3, E2, E5, rawX, deadX, ET, T, EB, simprocAttr]
  all_goals (unfold szU; (repeat' split) <;> first | trivial | (exfalso; omega))
end Go.Proofs.YtdpflafjfkooeaaGreatDoorG
namespace Go.Proofs.YtdpflafjfkooeaaGreatDoorG
open Go Go.RowKit Go.Proofs
set_option linter.unusedSimpArgs false
abbrev R32s (l : List Int) : Prop := ∀ n ∈ l, R32 n
theorem R32s.at {l : List Int} (h : R32s l) {j : Nat} (hj : j < l.length) : R32 (l.getD j 0) := by
  rw [List.getD_eq_getElem?_getD, List.getElem?_eq_getElem hj]; exact h _ (List.getElem_mem hj)
set_option maxRecDepth 10000 in
theorem bad_ok (n : Int) (hn : R32 n) : CallOk Tryz.prog 82 [i32 n] (bo (decide (szU n = 0))) [] true := by
  refine fn_ok' T_ok (orc_ok _) mixed Tryz.func82 rfl (by kernel_rfl) (lv [[0], [2]]) 6 rfl (by simp) rfl (by simp [X.all, PX.all, TV.rawR, SV.isRaw]) ?_
  simp only [argsG, Nat.zero_add, Nat.reduceAdd]
  repeat' first
    | ((first
        | ((with_reducible refine vR_cons (by decide) ?_); generalize hk : KtR _ _ _ _ _ _ _ _ _ _ = k)
        | ((first
        | with_reducible refine vOps_cons' ?_
        | ((with_reducible apply orc_i); (focus (with_reducible exact size_ok _ hn; done)))) <;> generalize hk : Kt _ _ _ _ _ _ _ _ _ = k)) <;> (simp only [Tryz.f82, lv, E1, E2, E5, ET, T, mvB, bxB, sxB, rxB, fwd, fwds, inv, mOk, EB, simprocAttr, rn_len, List.length_map]; (try simp (disch := omega) only [wrap_in, Int.toNat_natCast, tv_rn]); subst hk))
    | with_reducible first | refine Kt_p ?_ | refine Kt_i (by kernel_rfl) ?_ | refine Kr_f (by kernel_rfl) ?_
    | (with_reducible refine Kr_t ?_; simp only [List.length_append, List.length_cons, List.length_nil, Nat.reduceAdd, Nat.reduceSub, List.drop_succ_cons, List.drop_zero])
    | with_reducible first | refine vR_nil ?_ | refine KtR_i (by kernel_rfl) ?_ | refine KrR_i (by kernel_rfl) ?_ | refine vR_skip (by decide) ?_
    | ((with_reducible refine vB_i ?_ ?_) <;> intro _ <;> (first | (exfalso; omega) | (exact absurd trivial ‹¬True›) | (try dsimp only [])))
    | ((with_reducible refine vOps_nil' ?_); refine Kr_i (by kernel_rfl) ?_; generalize hk : plain _ _ = G; simp only [lv, E3, E2, E5, rawX, deadX, EB, simprocAttr, rn_len, List.length_map] at hk; subst hk)
    | with_reducible refine vSeq_i ?_
    | with_reducible first | refine vRegion_i (by kernel_rfl) ?_ | refine Kv_i ?_
    | ((with_reducible apply vStrK_i); (focus (rfl; done)))
    | ((with_reducible refine imp_i ?_); intro _)
    | with_reducible first | refine Ks_n ?_ | refine Ks_r ?_ | refine Ks_e ?_ | refine Kl_e ?_ | refine Kx_n ?_ | refine Kl_r ?_ | refine vRet_i ?_ | refine vSkip_i ?_ | refine vExit_i ?_ | refine vBlock_i ?_ | refine Ks_p ?_ | refine Kl_p ?_ | refine blk_p ?_ | exact Kb_p | refine vGoto_i ?_ | refine vLabel_i ?_ | refine Ks_g ?_ | refine Kl_g ?_ | refine blk_g ?_ | refine jmp_g ?_ | refine jmp_n ?_ | refine jmp_r ?_ | refine nog_n ?_ | refine nog_r ?_ | refine blk_n ?_ | refine blk_r ?_ | refine blk_e ?_ | refine blk_o (by decide) ?_ | refine cp_t ?_ | refine cp_f ?_
    | ((with_reducible apply vCond_x); (focus (simp only [lv, E1, E2, E5, ET, T, mvB, bxB, sxB, rxB, fwd, fwds, inv, mOk, EB, simprocAttr, rn_len, List.length_map]; with_reducible first | exact Eq.refl (bo true) | exact Eq.refl (bo false))))
    | ((with_reducible refine And.intro ?_ ?_); (focus (try omega)))
  all_goals refine Kf_r ?_
  all_goals simp only [Tryz.f82, E4, E3, E2, E5, rawX, deadX, ET, T, EB, simprocAttr, rn_len, List.length_map]
  all_goals simp_all
theorem leastN {p : Nat → Prop} (h : ∃ n, p n) : ∃ n, p n ∧ ∀ k, p k → n ≤ k := by
  obtain ⟨n, hn⟩ := h
  induction n using Nat.strongRecOn with
  | _ n ih =>
    by_cases hs : ∃ k, k < n ∧ p k
    · obtain ⟨k, hk, hp⟩ := hs; exact ih k hk hp
    · exact ⟨n, hn, fun k hp => Nat.le_of_not_lt fun hlt => hs ⟨k, hlt, hp⟩⟩
def scal (l : List Int) : Prop := ∀ i, i < l.length → szU (l.getD i 0) ≠ 0
instance (l : List Int) : Decidable (scal l) := by unfold scal; infer_instance
set_option maxRecDepth 10000 in
theorem scal1_ok (l : List Int) (h : R32s l) (hl : l.length ≤ 2000000) : CallOk Tryz.prog 59 [sl (rn l)] (bo (decide (scal l))) [] true := by
  refine fn_ok' T_ok (orc_ok _) mixed Tryz.func59 rfl (by kernel_rfl) (lv [[0], [0, 3], [0, 3, 7], [0, 3], [0, 3, 15], [2], [2]]) 16 rfl (by simp) rfl (by simp [X.all, PX.all, TV.rawR, SV.isRaw]) ?_
  simp only [argsG, Nat.zero_add, Nat.reduceAdd]
  repeat' first
    | ((first
        | ((with_reducible refine vR_cons (by decide) ?_); generalize hk : KtR _ _ _ _ _ _ _ _ _ _ = k)
        | ((first
        | with_reducible refine vOps_cons' ?_) <;> generalize hk : Kt _ _ _ _ _ _ _ _ _ = k)) <;> (simp only [Tryz.f59, lv, E1, E2, E5, ET, T, mvB, bxB, sxB, rxB, fwd, fwds, inv, mOk, EB, simprocAttr, rn_len, List.length_map]; (try simp (disch := omega) only [wrap_in, Int.toNat_natCast, tv_rn]); subst hk))
    | with_reducible first | refine Kt_p ?_ | refine Kt_i (by kernel_rfl) ?_ | refine Kr_f (by kernel_rfl) ?_
    | (with_reducible refine Kr_t ?_; simp only [List.length_append, List.length_cons, List.length_nil, Nat.reduceAdd, Nat.reduceSub, List.drop_succ_cons, List.drop_zero])
    | with_reducible first | refine vR_nil ?_ | refine KtR_i (by kernel_rfl) ?_ | refine KrR_i (by kernel_rfl) ?_ | refine vR_skip (by decide) ?_
    | ((with_reducible refine vB_i ?_ ?_) <;> intro _ <;> (first | (exfalso; omega) | (exact absurd trivial ‹¬True›) | (try dsimp only [])))
    | ((with_reducible refine vOps_nil' ?_); refine Kr_i (by kernel_rfl) ?_; generalize hk : plain _ _ = G; simp only [lv, E3, E2, E5, rawX, deadX, EB, simprocAttr, rn_len, List.length_map] at hk; subst hk)
    | with_reducible refine vSeq_i ?_
    | with_reducible first | refine vRegion_i (by kernel_rfl) ?_ | refine Kv_i ?_
    | ((with_reducible apply vStrK_i); (focus (rfl; done)))
    | ((with_reducible refine imp_i ?_); intro _)
    | with_reducible first | refine Ks_n ?_ | refine Ks_r ?_ | refine Ks_e ?_ | refine Kl_e ?_ | refine Kx_n ?_ | refine Kl_r ?_ | refine vRet_i ?_ | refine vSkip_i ?_ | refine vExit_i ?_ | refine vBlock_i ?_ | refine Ks_p ?_ | refine Kl_p ?_ | refine blk_p ?_ | exact Kb_p | refine vGoto_i ?_ | refine vLabel_i ?_ | refine Ks_g ?_ | refine Kl_g ?_ | refine blk_g ?_ | refine jmp_g ?_ | refine jmp_n ?_ | refine jmp_r ?_ | refine nog_n ?_ | refine nog_r ?_ | refine blk_n ?_ | refine blk_r ?_ | refine blk_e ?_ | refine blk_o (by decide) ?_ | refine cp_t ?_ | refine cp_f ?_
    | ((with_reducible apply vCond_x); (focus (simp only [lv, E1, E2, E5, ET, T, mvB, bxB, sxB, rxB, fwd, fwds, inv, mOk, EB, simprocAttr, rn_len, List.length_map]; with_reducible first | exact Eq.refl (bo true) | exact Eq.refl (bo false))))
    | ((with_reducible refine And.intro ?_ ?_); (focus (try omega)))
  refine vLoop_s (fun k : Nat => [(.t 0, .t (sl (rn l))), (.t 3, .t (i64 k))]) (fun k => k ≤ l.length ∧ ∀ i, i < k → szU (l.getD i 0) ≠ 0) (fun k => l.length - k) 0 ⟨by omega, by omega⟩ rfl ?_
  rintro k ⟨hk, hlt⟩
  repeat' first
    | ((first
        | ((with_reducible refine vR_cons (by decide) ?_); generalize hk : KtR _ _ _ _ _ _ _ _ _ _ = k)
        | ((first
        | with_reducible refine vOps_cons' ?_
        | ((with_reducible apply orc_i); (focus (with_reducible exact size1_ok _ (h.at (by omega)); done)))) <;> generalize hk : Kt _ _ _ _ _ _ _ _ _ = k)) <;> (simp only [Tryz.f59, lv, E1, E2, E5, ET, T, mvB, bxB, sxB, rxB, fwd, fwds, inv, mOk, EB, simprocAttr, rn_len, List.length_map]; (try simp (disch := omega) only [wrap_in, Int.toNat_natCast, tv_rn]); subst hk))
    | with_reducible first | refine Kt_p ?_ | refine Kt_i (by kernel_rfl) ?_ | refine Kr_f (by kernel_rfl) ?_
    | (with_reducible refine Kr_t ?_; simp only [List.length_append, List.length_cons, List.length_nil, Nat.reduceAdd, Nat.reduceSub, List.drop_succ_cons, List.drop_zero])
    | with_reducible first | refine vR_nil ?_ | refine KtR_i (by kernel_rfl) ?_ | refine KrR_i (by kernel_rfl) ?_ | refine vR_skip (by decide) ?_
    | ((with_reducible refine vB_i ?_ ?_) <;> intro _ <;> (first | (exfalso; omega) | (exact absurd trivial ‹¬True›) | (try dsimp only [])))
    | ((with_reducible refine vOps_nil' ?_); refine Kr_i (by kernel_rfl) ?_; generalize hk : plain _ _ = G; simp only [lv, E3, E2, E5, rawX, deadX, EB, simprocAttr, rn_len, List.length_map] at hk; subst hk)
    | with_reducible refine vSeq_i ?_
    | with_reducible first | refine vRegion_i (by kernel_rfl) ?_ | refine Kv_i ?_
    | ((with_reducible apply vStrK_i); (focus (rfl; done)))
    | ((with_reducible refine imp_i ?_); intro _)
    | with_reducible first | refine Ks_n ?_ | refine Ks_r ?_ | refine Ks_e ?_ | refine Kl_e ?_ | refine Kx_n ?_ | refine Kl_r ?_ | refine vRet_i ?_ | refine vSkip_i ?_ | refine vExit_i ?_ | refine vBlock_i ?_ | refine Ks_p ?_ | refine Kl_p ?_ | refine blk_p ?_ | exact Kb_p | refine vGoto_i ?_ | refine vLabel_i ?_ | refine Ks_g ?_ | refine Kl_g ?_ | refine blk_g ?_ | refine jmp_g ?_ | refine jmp_n ?_ | refine jmp_r ?_ | refine nog_n ?_ | refine nog_r ?_ | refine blk_n ?_ | refine blk_r ?_ | refine blk_e ?_ | refine blk_o (by decide) ?_ | refine cp_t ?_ | refine cp_f ?_
    | ((with_reducible apply vCond_x); (focus (simp only [lv, E1, E2, E5, ET, T, mvB, bxB, sxB, rxB, fwd, fwds, inv, mOk, EB, simprocAttr, rn_len, List.length_map]; with_reducible first | exact Eq.refl (bo true) | exact Eq.refl (bo false))))
    | ((with_reducible refine And.intro ?_ ?_); (focus (try omega)))
  · refine Kf_r ?_
    simp only [Tryz.f59, E4, E3, E2, E5, rawX, deadX, ET, T, EB, simprocAttr, rn_len, List.length_map, X.p.injEq, X.tup.injEq, PX.one.injEq, PX.agg.injEq, TV.v.injEq, TV.sr.injEq, SV.raw.injEq, SV.sl.injEq, Value.bool.injEq, Value.int.injEq, List.cons.injEq, Prod.mk.injEq, true_and, and_true, and_self]
    rename_i ha hb
    symm; simp only [decide_eq_false_iff_not]
    exact fun hs => hs k (by omega) hb
  · rename_i ha hb
    exact Kl_n ⟨k + 1, ⟨by omega, fun i hi => by rcases Nat.lt_or_eq_of_le (Nat.le_of_lt_succ hi) with h1 | h1; exact hlt i h1; exact h1 ▸ hb⟩, by omega, by simp only [Int.natCast_add, Int.natCast_one]⟩
  · refine Kf_r ?_
    simp only [Tryz.f59, E4, E3, E2, E5, rawX, deadX, ET, T, EB, simprocAttr, rn_len, List.length_map, X.p.injEq, X.tup.injEq, PX.one.injEq, PX.agg.injEq, TV.v.injEq, TV.sr.injEq, SV.raw.injEq, SV.sl.injEq, Value.bool.injEq, Value.int.injEq, List.cons.injEq, Prod.mk.injEq, true_and, and_true, and_self]
    rename_i ha
    symm; simp only [decide_eq_true_eq]
    exact fun i hi => hlt i (by omega)
/-- The first that is none. -/
def idxU (l : List Int) : Int := match l.findIdx? fun n => decide (szU n = 0) with | some k => k | none => -1
theorem idxU_at {l : List Int} {k : Nat} (h : ∀ i, i < k → szU (l.getD i 0) ≠ 0) (hk : k < l.length) (hz : szU (l.getD k 0) = 0) : idxU l = k := by
  have e : l.findIdx? (fun n => decide (szU n = 0)) = some k := by
    rw [List.findIdx?_eq_some_iff_getElem]
    refine ⟨hk, ?_, fun j hj => ?_⟩
    · have : l.getD k 0 = l[k] := by simp [List.getD, List.getElem?_eq_getElem hk]
      rw [this] at hz; simpa using hz
    · have hj' : j < l.length := by omega
      have : l.getD j 0 = l[j] := by simp [List.getD, List.getElem?_eq_getElem hj']
      have := h j hj
      simp_all
  simp [idxU, e]
theorem idxU_none {l : List Int} (h : ∀ i, i < l.length → szU (l.getD i 0) ≠ 0) : idxU l = -1 := by
  have e : l.findIdx? (fun n => decide (szU n = 0)) = none := by
    rw [List.findIdx?_eq_none_iff]
    intro x hx
    obtain ⟨j, hj, rfl⟩ := List.getElem_of_mem hx
    have := h j hj
    have e2 : l.getD j 0 = l[j] := by simp [List.getD, List.getElem?_eq_getElem hj]
    rw [e2] at this
    simpa using this
  simp [idxU, e]
theorem idxU_lt {l : List Int} : decide (idxU l ≥ 0) = !decide (scal l) := by
  by_cases hs : scal l
  · simp [idxU_none hs, hs]
  · simp only [hs, decide_false, Bool.not_false]
    have hs' : ∃ i, i < l.length ∧ szU (l.getD i 0) = 0 := Classical.byContradiction fun hn => hs fun i hi hz => hn ⟨i, hi, hz⟩
    obtain ⟨k, ⟨hk, hz⟩, hmin⟩ := leastN hs'
    have := idxU_at (fun i hi hz' => by have := hmin i ⟨by omega, hz'⟩; omega) hk hz
    rw [this]; simp
set_option maxRecDepth 10000 in
theorem index_ok (l : List Int) (h : R32s l) (hl : l.length ≤ 2000000) : CallOk Tryz.prog 86 [sl (rn l), fnv 82] (i64 (idxU l)) [] true := by
  refine fn_ok' T_ok (orc_ok _) mixed Tryz.func86 rfl (by kernel_rfl) (lv [[0, 1], [0, 1, 7, 8], [0, 1, 7, 8, 9], [0, 1, 5, 7, 8], [0, 1, 5, 7, 8, 16], [4], [0, 1, 7, 8], [4]]) 19 rfl (by simp) rfl (by simp [X.all, PX.all, TV.rawR, SV.isRaw]) ?_
  simp only [argsG, Nat.zero_add, Nat.reduceAdd]
  repeat' first
    | ((first
        | ((with_reducible refine vR_cons (by decide) ?_); generalize hk : KtR _ _ _ _ _ _ _ _ _ _ = k)
        | ((first
        | with_reducible refine vOps_cons' ?_) <;> generalize hk : Kt _ _ _ _ _ _ _ _ _ = k)) <;> (simp only [Tryz.f86, lv, E1, E2, E5, ET, T, mvB, bxB, sxB, rxB, fwd, fwds, inv, mOk, EB, simprocAttr, rn_len, List.length_map]; (try simp (disch := omega) only [wrap_in, Int.toNat_natCast, tv_rn]); subst hk))
    | with_reducible first | refine Kt_p ?_ | refine Kt_i (by kernel_rfl) ?_ | refine Kr_f (by kernel_rfl) ?_
    | (with_reducible refine Kr_t ?_; simp only [List.length_append, List.length_cons, List.length_nil, Nat.reduceAdd, Nat.reduceSub, List.drop_succ_cons, List.drop_zero])
    | with_reducible first | refine vR_nil ?_ | refine KtR_i (by kernel_rfl) ?_ | refine KrR_i (by kernel_rfl) ?_ | refine vR_skip (by decide) ?_
    | ((with_reducible refine vB_i ?_ ?_) <;> intro _ <;> (first | (exfalso; omega) | (exact absurd trivial ‹¬True›) | (try dsimp only [])))
    | ((with_reducible refine vOps_nil' ?_); refine Kr_i (by kernel_rfl) ?_; generalize hk : plain _ _ = G; simp only [lv, E3, E2, E5, rawX, deadX, EB, simprocAttr, rn_len, List.length_map] at hk; subst hk)
    | with_reducible refine vSeq_i ?_
    | with_reducible first | refine vRegion_i (by kernel_rfl) ?_ | refine Kv_i ?_
    | ((with_reducible apply vStrK_i); (focus (rfl; done)))
    | ((with_reducible refine imp_i ?_); intro _)
    | with_reducible first | refine Ks_n ?_ | refine Ks_r ?_ | refine Ks_e ?_ | refine Kl_e ?_ | refine Kx_n ?_ | refine Kl_r ?_ | refine vRet_i ?_ | refine vSkip_i ?_ | refine vExit_i ?_ | refine vBlock_i ?_ | refine Ks_p ?_ | refine Kl_p ?_ | refine blk_p ?_ | exact Kb_p | refine vGoto_i ?_ | refine vLabel_i ?_ | refine Ks_g ?_ | refine Kl_g ?_ | refine blk_g ?_ | refine jmp_g ?_ | refine jmp_n ?_ | refine jmp_r ?_ | refine nog_n ?_ | refine nog_r ?_ | refine blk_n ?_ | refine blk_r ?_ | refine blk_e ?_ | refine blk_o (by decide) ?_ | refine cp_t ?_ | refine cp_f ?_
    | ((with_reducible apply vCond_x); (focus (simp only [lv, E1, E2, E5, ET, T, mvB, bxB, sxB, rxB, fwd, fwds, inv, mOk, EB, simprocAttr, rn_len, List.length_map]; with_reducible first | exact Eq.refl (bo true) | exact Eq.refl (bo false))))
    | ((with_reducible refine And.intro ?_ ?_); (focus (try omega)))
  refine vLoop_s (fun k : Nat => [(.t 0, .t (sl (rn l))), (.t 1, .t (fnv 82)), (.t 7, .t (i64 l.length)), (.t 8, .t (i64 k))]) (fun k => k ≤ l.length ∧ ∀ i, i < k → szU (l.getD i 0) ≠ 0) (fun k => l.length - k) 0 ⟨by omega, by omega⟩ rfl ?_
  rintro k ⟨hk, hlt⟩
  repeat' first
    | ((first
        | ((with_reducible refine vR_cons (by decide) ?_); generalize hk : KtR _ _ _ _ _ _ _ _ _ _ = k)
        | ((first
        | with_reducible refine vOps_cons' ?_
        | ((with_reducible apply orc_b); (focus (with_reducible exact bad_ok _ (h.at (by omega)); done)); (all_goals (intro hb; (try simp only [decide_eq_true_eq, decide_eq_false_iff_not, Bool.not_eq_true', Bool.not_eq_false', Bool.and_eq_true, Decidable.not_not] at hb))))) <;> generalize hk : Kt _ _ _ _ _ _ _ _ _ = k)) <;> (simp only [Tryz.f86, lv, E1, E2, E5, ET, T, mvB, bxB, sxB, rxB, fwd, fwds, inv, mOk, EB, simprocAttr, rn_len, List.length_map]; (try simp (disch := omega) only [wrap_in, Int.toNat_natCast, tv_rn]); subst hk))
    | with_reducible first | refine Kt_p ?_ | refine Kt_i (by kernel_rfl) ?_ | refine Kr_f (by kernel_rfl) ?_
    | (with_reducible refine Kr_t ?_; simp only [List.length_append, List.length_cons, List.length_nil, Nat.reduceAdd, Nat.reduceSub, List.drop_succ_cons, List.drop_zero])
    | with_reducible first | refine vR_nil ?_ | refine KtR_i (by kernel_rfl) ?_ | refine KrR_i (by kernel_rfl) ?_ | refine vR_skip (by decide) ?_
    | ((with_reducible refine vB_i ?_ ?_) <;> intro _ <;> (first | (exfalso; omega) | (exact absurd trivial ‹¬True›) | (try dsimp only [])))
    | ((with_reducible refine vOps_nil' ?_); refine Kr_i (by kernel_rfl) ?_; generalize hk : plain _ _ = G; simp only [lv, E3, E2, E5, rawX, deadX, EB, simprocAttr, rn_len, List.length_map] at hk; subst hk)
    | with_reducible refine vSeq_i ?_
    | with_reducible first | refine vRegion_i (by kernel_rfl) ?_ | refine Kv_i ?_
    | ((with_reducible apply vStrK_i); (focus (rfl; done)))
    | ((with_reducible refine imp_i ?_); intro _)
    | with_reducible first | refine Ks_n ?_ | refine Ks_r ?_ | refine Ks_e ?_ | refine Kl_e ?_ | refine Kx_n ?_ | refine Kl_r ?_ | refine vRet_i ?_ | refine vSkip_i ?_ | refine vExit_i ?_ | refine vBlock_i ?_ | refine Ks_p ?_ | refine Kl_p ?_ | refine blk_p ?_ | exact Kb_p | refine vGoto_i ?_ | refine vLabel_i ?_ | refine Ks_g ?_ | refine Kl_g ?_ | refine blk_g ?_ | refine jmp_g ?_ | refine jmp_n ?_ | refine jmp_r ?_ | refine nog_n ?_ | refine nog_r ?_ | refine blk_n ?_ | refine blk_r ?_ | refine blk_e ?_ | refine blk_o (by decide) ?_ | refine cp_t ?_ | refine cp_f ?_
    | ((with_reducible apply vCond_x); (focus (simp only [lv, E1, E2, E5, ET, T, mvB, bxB, sxB, rxB, fwd, fwds, inv, mOk, EB, simprocAttr, rn_len, List.length_map]; with_reducible first | exact Eq.refl (bo true) | exact Eq.refl (bo false))))
    | ((with_reducible refine And.intro ?_ ?_); (focus (try omega)))
  · refine Kf_r ?_
    simp only [Tryz.f86, E4, E3, E2, E5, rawX, deadX, ET, T, EB, simprocAttr, rn_len, List.length_map, X.p.injEq, X.tup.injEq, PX.one.injEq, PX.agg.injEq, TV.v.injEq, TV.sr.injEq, SV.raw.injEq, SV.sl.injEq, Value.bool.injEq, Value.int.injEq, List.cons.injEq, Prod.mk.injEq, true_and, and_true, and_self]
    rename_i hb
    exact (idxU_at hlt (by omega) hb).symm
  · rename_i hb
    exact Kl_n ⟨k + 1, ⟨by omega, fun i hi => by rcases Nat.lt_or_eq_of_le (Nat.le_of_lt_succ hi) with h1 | h1; exact hlt i h1; exact h1 ▸ hb⟩, by omega, by simp only [Int.natCast_add, Int.natCast_one]⟩
  · refine Kf_r ?_
    simp only [Tryz.f86, E4, E3, E2, E5, rawX, deadX, ET, T, EB, simprocAttr, rn_len, List.length_map, X.p.injEq, X.tup.injEq, PX.one.injEq, PX.agg.injEq, TV.v.injEq, TV.sr.injEq, SV.raw.injEq, SV.sl.injEq, Value.bool.injEq, Value.int.injEq, List.cons.injEq, Prod.mk.injEq, true_and, and_true, and_self]
    exact (idxU_none fun i hi => hlt i (by omega)).symm
set_option maxRecDepth 10000 in
theorem contains_ok (l : List Int) (h : R32s l) (hl : l.length ≤ 2000000) : CallOk Tryz.prog 81 [sl (rn l), fnv 82] (bo (!decide (scal l))) [] true := by
  refine fn_ok' T_ok (orc_ok _) mixed Tryz.func81 rfl (by kernel_rfl) (lv [[0, 1], [4]]) 9 rfl (by simp) rfl (by simp [X.all, PX.all, TV.rawR, SV.isRaw]) ?_
  simp only [argsG, Nat.zero_add, Nat.reduceAdd]
  repeat' first
    | ((first
        | ((with_reducible refine vR_cons (by decide) ?_); generalize hk : KtR _ _ _ _ _ _ _ _ _ _ = k)
        | ((first
        | with_reducible refine vOps_cons' ?_
        | ((with_reducible apply orc_i); (focus (with_reducible exact index_ok _ h hl; done)))) <;> generalize hk : Kt _ _ _ _ _ _ _ _ _ = k)) <;> (simp only [Tryz.f81, lv, E1, E2, E5, ET, T, mvB, bxB, sxB, rxB, fwd, fwds, inv, mOk, EB, simprocAttr, rn_len, List.length_map]; (try simp (disch := omega) only [wrap_in, Int.toNat_natCast, tv_rn]); subst hk))
    | with_reducible first | refine Kt_p ?_ | refine Kt_i (by kernel_rfl) ?_ | refine Kr_f (by kernel_rfl) ?_
    | (with_reducible refine Kr_t ?_; simp only [List.length_append, List.length_cons, List.length_nil, Nat.reduceAdd, Nat.reduceSub, List.drop_succ_cons, List.drop_zero])
    | with_reducible first | refine vR_nil ?_ | refine KtR_i (by kernel_rfl) ?_ | refine KrR_i (by kernel_rfl) ?_ | refine vR_skip (by decide) ?_
    | ((with_reducible refine vB_i ?_ ?_) <;> intro _ <;> (first | (exfalso; omega) | (exact absurd trivial ‹¬True›) | (try dsimp only [])))
    | ((with_reducible refine vOps_nil' ?_); refine Kr_i (by kernel_rfl) ?_; generalize hk : plain _ _ = G; simp only [lv, E3, E2, E5, rawX, deadX, EB, simprocAttr, rn_len, List.length_map] at hk; subst hk)
    | with_reducible refine vSeq_i ?_
    | with_reducible first | refine vRegion_i (by kernel_rfl) ?_ | refine Kv_i ?_
    | ((with_reducible apply vStrK_i); (focus (rfl; done)))
    | ((with_reducible refine imp_i ?_); intro _)
    | with_reducible first | refine Ks_n ?_ | refine Ks_r ?_ | refine Ks_e ?_ | refine Kl_e ?_ | refine Kx_n ?_ | refine Kl_r ?_ | refine vRet_i ?_ | refine vSkip_i ?_ | refine vExit_i ?_ | refine vBlock_i ?_ | refine Ks_p ?_ | refine Kl_p ?_ | refine blk_p ?_ | exact Kb_p | refine vGoto_i ?_ | refine vLabel_i ?_ | refine Ks_g ?_ | refine Kl_g ?_ | refine blk_g ?_ | refine jmp_g ?_ | refine jmp_n ?_ | refine jmp_r ?_ | refine nog_n ?_ | refine nog_r ?_ | refine blk_n ?_ | refine blk_r ?_ | refine blk_e ?_ | refine blk_o (by decide) ?_ | refine cp_t ?_ | refine cp_f ?_
    | ((with_reducible apply vCond_x); (focus (simp only [lv, E1, E2, E5, ET, T, mvB, bxB, sxB, rxB, fwd, fwds, inv, mOk, EB, simprocAttr, rn_len, List.length_map]; with_reducible first | exact Eq.refl (bo true) | exact Eq.refl (bo false))))
    | ((with_reducible refine And.intro ?_ ?_); (focus (try omega)))
  all_goals
    refine Kf_r ?_
    simp only [Tryz.f81, E4, E3, E2, E5, rawX, deadX, ET, T, EB, simprocAttr, rn_len, List.length_map, X.p.injEq, X.tup.injEq, PX.one.injEq, PX.agg.injEq, TV.v.injEq, TV.sr.injEq, SV.raw.injEq, SV.sl.injEq, Value.bool.injEq, Value.int.injEq, List.cons.injEq, Prod.mk.injEq, true_and, and_true, and_self]
    rename_i hb
    rw [← idxU_lt]; simp [hb]
set_option maxRecDepth 10000 in
theorem scal_ok (l : List Int) (h : R32s l) (hl : l.length ≤ 2000000) : CallOk Tryz.prog 72 [sl (rn l)] (bo (decide (scal l))) [] true := by
  refine fn_ok' T_ok (orc_ok _) mixed Tryz.func72 rfl (by kernel_rfl) (lv [[0], [2]]) 6 rfl (by simp) rfl (by simp [X.all, PX.all, TV.rawR, SV.isRaw]) ?_
  simp only [argsG, Nat.zero_add, Nat.reduceAdd]
  repeat' first
    | ((first
        | ((with_reducible refine vR_cons (by decide) ?_); generalize hk : KtR _ _ _ _ _ _ _ _ _ _ = k)
        | ((first
        | with_reducible refine vOps_cons' ?_
        | ((with_reducible apply orc_i); (focus (with_reducible exact contains_ok _ h hl; done)))) <;> generalize hk : Kt _ _ _ _ _ _ _ _ _ = k)) <;> (simp only [Tryz.f72, lv, E1, E2, E5, ET, T, mvB, bxB, sxB, rxB, fwd, fwds, inv, mOk, EB, simprocAttr, rn_len, List.length_map]; (try simp (disch := omega) only [wrap_in, Int.toNat_natCast, tv_rn]); subst hk))
    | with_reducible first | refine Kt_p ?_ | refine Kt_i (by kernel_rfl) ?_ | refine Kr_f (by kernel_rfl) ?_
    | (with_reducible refine Kr_t ?_; simp only [List.length_append, List.length_cons, List.length_nil, Nat.reduceAdd, Nat.reduceSub, List.drop_succ_cons, List.drop_zero])
    | with_reducible first | refine vR_nil ?_ | refine KtR_i (by kernel_rfl) ?_ | refine KrR_i (by kernel_rfl) ?_ | refine vR_skip (by decide) ?_
    | ((with_reducible refine vB_i ?_ ?_) <;> intro _ <;> (first | (exfalso; omega) | (exact absurd trivial ‹¬True›) | (try dsimp only [])))
    | ((with_reducible refine vOps_nil' ?_); refine Kr_i (by kernel_rfl) ?_; generalize hk : plain _ _ = G; simp only [lv, E3, E2, E5, rawX, deadX, EB, simprocAttr, rn_len, List.length_map] at hk; subst hk)
    | with_reducible refine vSeq_i ?_
    | with_reducible first | refine vRegion_i (by kernel_rfl) ?_ | refine Kv_i ?_
    | ((with_reducible apply vStrK_i); (focus (rfl; done)))
    | ((with_reducible refine imp_i ?_); intro _)
    | with_reducible first | refine Ks_n ?_ | refine Ks_r ?_ | refine Ks_e ?_ | refine Kl_e ?_ | refine Kx_n ?_ | refine Kl_r ?_ | refine vRet_i ?_ | refine vSkip_i ?_ | refine vExit_i ?_ | refine vBlock_i ?_ | refine Ks_p ?_ | refine Kl_p ?_ | refine blk_p ?_ | exact Kb_p | refine vGoto_i ?_ | refine vLabel_i ?_ | refine Ks_g ?_ | refine Kl_g ?_ | refine blk_g ?_ | refine jmp_g ?_ | refine jmp_n ?_ | refine jmp_r ?_ | refine nog_n ?_ | refine nog_r ?_ | refine blk_n ?_ | refine blk_r ?_ | refine blk_e ?_ | refine blk_o (by decide) ?_ | refine cp_t ?_ | refine cp_f ?_
    | ((with_reducible apply vCond_x); (focus (simp only [lv, E1, E2, E5, ET, T, mvB, bxB, sxB, rxB, fwd, fwds, inv, mOk, EB, simprocAttr, rn_len, List.length_map]; with_reducible first | exact Eq.refl (bo true) | exact Eq.refl (bo false))))
    | ((with_reducible refine And.intro ?_ ?_); (focus (try omega)))
  refine Kf_r ?_
  simp only [Tryz.f72, E4, E3, E2, E5, rawX, deadX, ET, T, EB, simprocAttr, rn_len, List.length_map, X.p.injEq, X.tup.injEq, PX.one.injEq, PX.agg.injEq, TV.v.injEq, TV.sr.injEq, SV.raw.injEq, SV.sl.injEq, Value.bool.injEq, Value.int.injEq, List.cons.injEq, Prod.mk.injEq, true_and, and_true, and_self]
  simp
end Go.Proofs.YtdpflafjfkooeaaGreatDoorG
