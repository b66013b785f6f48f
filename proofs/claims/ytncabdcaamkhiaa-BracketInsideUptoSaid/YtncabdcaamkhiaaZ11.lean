/- YtncabdcaamkhiaaZ11: a part of the proof, joined of its texts. -/
import Derived.Test.YtncabdcaamkhiaaZ10
/- H2: what came in, by value: from types to numbers, lists and structs. -/
namespace Go.Proofs.YtncabdcaamkhiaaG
open Go Go.RowKit Go.Proofs.Ytncabdcaamkhiaa
set_option linter.unusedVariables false
set_option linter.unusedSimpArgs false
theorem Typ.int' {T n t xs k s b z} (h : Typ T n t xs) (ht : T t = some ⟨.int k, s, b, z⟩) : ∃ m, xs = [.raw (.int k m)] ∧ k.min ≤ m ∧ m ≤ k.max := by
  cases h with
  | int _ k' _ _ _ m h hw =>
    rw [ht] at h
    simp only [Option.some.injEq, TI.mk.injEq, TK.int.injEq] at h
    obtain ⟨rfl, _⟩ := h
    exact ⟨m, rfl, by simpa [Lit.wf] using hw⟩
  | _ => simp_all
theorem Typ.sl' {T n t xs e s b z ei} (h : Typ T n t xs) (ht : T t = some ⟨.slice e, s, b, z⟩) (hi : T e = some ei) : ∃ xss : List (List SV), xs = [.sl ei.size xss.flatten] ∧ xss.length ≤ n ∧ ∀ ys ∈ xss, Typ T n e ys := by
  cases h with
  | sl _ e' _ _ _ ei' xss h hi' hl hx hs =>
    rw [ht] at h
    simp only [Option.some.injEq, TI.mk.injEq, TK.slice.injEq] at h
    obtain ⟨rfl, _⟩ := h
    rw [hi] at hi'
    cases hi'
    exact ⟨xss, rfl, hl, hx⟩
  | _ => simp_all
theorem Typ.struct' {T n t xs fs s b z} (h : Typ T n t xs) (ht : T t = some ⟨.struct fs, s, b, z⟩) : ∃ xss : List (List SV), xs = xss.flatten ∧ All2 (fun (f : Nat × Nat) ys => Typ T n f.1 ys) fs xss := by
  cases h with
  | struct _ fs' _ _ _ xss h hl hx =>
    rw [ht] at h
    simp only [Option.some.injEq, TI.mk.injEq, TK.struct.injEq] at h
    obtain ⟨rfl, _⟩ := h
    exact ⟨xss, rfl, hl.symm, hx⟩
  | _ => simp_all
theorem all2_c1 {α β : Type} {R : α → β → Prop} {u : α} {us : List α} {xs : List β} (h : All2 R (u :: us) xs) : ∃ x xs', xs = x :: xs' ∧ R u x ∧ All2 R us xs' := by
  cases xs with
  | nil => have := h.1; simp at this
  | cons x xs => exact ⟨x, xs, rfl, h.head, h.tail⟩
theorem all2_n {α β : Type} {R : α → β → Prop} {xs : List β} (h : All2 R ([] : List α) xs) : xs = [] := by
  have := h.1; exact List.eq_nil_of_length_eq_zero (by simpa using this.symm)
/-- One by one. -/
theorem choose_l {α β : Type} {p : β → Prop} {f : β → α} : ∀ {xs : List α}, (∀ x ∈ xs, ∃ y, x = f y ∧ p y) → ∃ ys : List β, xs = ys.map f ∧ ∀ y ∈ ys, p y
  | [], _ => ⟨[], rfl, fun y hy => by cases hy⟩
  | x :: xs, h => by
    obtain ⟨y, rfl, hy⟩ := h x (by simp)
    obtain ⟨ys, rfl, hys⟩ := choose_l (fun x hx => h x (by simp [hx]) : ∀ x ∈ xs, ∃ y, x = f y ∧ p y)
    exact ⟨y :: ys, rfl, fun z hz => by rcases List.mem_cons.1 hz with rfl | hz; exact hy; exact hys z hz⟩
/-- A list of whole numbers. -/
theorem Typ.ints {T n t xs e k s b z s' b' z'} (h : Typ T n t xs) (ht : T t = some ⟨.slice e, s, b, z⟩) (hi : T e = some ⟨.int k, s', b', z'⟩) : ∃ l : List Int, xs = [.sl s' (l.map fun n => .raw (.int k n))] ∧ (∀ m ∈ l, k.min ≤ m ∧ m ≤ k.max) ∧ l.length ≤ n := by
  obtain ⟨xss, rfl, hl, hx⟩ := h.sl' ht hi
  obtain ⟨l, rfl, hp⟩ := choose_l (p := fun m => k.min ≤ m ∧ m ≤ k.max) (f := fun m => [SV.raw (.int k m)]) fun ys hys => (hx ys hys).int' hi
  refine ⟨l, ?_, hp, by simpa using hl⟩
  congr 2
  clear hx hl hp h
  induction l with
  | nil => rfl
  | cons m l ih => simp only [List.map_cons, List.flatten_cons, ih]; rfl
section
variable {H : Type} {enc : TypeId × Value → H} {P : Program} {T : Tab} (hT : Tok P T) {W : World} {base : Nat} {sp : Nat → Bool} {held : Bool}
def gI (W : World) : Gh := { o := oI W, hd := fun _ => undef, bk := fun _ => 0 }
include hT
theorem arg_one {v : Value} {d : DataW H} {p : List MemPlace} {t m n : Nat} (hok : okT T m t = true) (h : DataW.Trod enc P W base sp held t v d p) (hn : Rows.uptoBulk d ≤ n) (hc : v.cells.toList = [v]) : ∃ x, Typ T n t [x] ∧ XR W (gI W) v (.p (.one (.v x))) := by
  obtain ⟨fuel, hf⟩ := h
  rw [hc] at hf
  obtain ⟨xs, h1, h2⟩ := trod_typ hT m t hok fuel _ d p hf
  obtain ⟨x, xs', rfl, hx, hn'⟩ := all2_c1 h1
  have := all2_n hn'
  subst this
  exact ⟨x, h2.mono hn, hx⟩
theorem arg_agg {cs : Array Value} {d : DataW H} {p : List MemPlace} {t m n : Nat} (hok : okT T m t = true) (h : DataW.Trod enc P W base sp held t (.agg cs) d p) (hn : Rows.uptoBulk d ≤ n) : ∃ xs, Typ T n t xs ∧ XR W (gI W) (.agg cs) (.p (.agg (xs.map .v))) := by
  obtain ⟨fuel, hf⟩ := h
  obtain ⟨xs, h1, h2⟩ := trod_typ hT m t hok fuel _ d p hf
  exact ⟨xs, h2.mono hn, cs, rfl, h1.svTv⟩
end
theorem gI_other (W : World) (b : Nat) : (gI W).o b = .other ∨ (gI W).o b = .imm := by simp only [gI, oI]; split <;> simp
theorem gI_lt (W : World) (b : Nat) (h : (gI W).o b ≠ .other) : b < W.heap.size := by simp only [gI, oI] at h; split at h <;> simp_all
theorem Fr.below {W W' : World} {g' : Gh} (h : Fr W W' (gI W).o g'.o) : Below W.heap.size W W' := ⟨h.os, h.tape, h.output, h.size, fun b hb => (h.keep b hb (gI_other W b)).1⟩
theorem bulk1 {H : Type} {ds : List (DataW H)} {d : DataW H} (hk : Rows.uptoSmall H ds = true) (h : d ∈ ds) : Rows.uptoBulk d ≤ 1048576 := Nat.le_trans (part_le h) (of_decide_eq_true hk)
/-- A law that answers true, called at what came in. -/
theorem law_calls {P : Program} {f : Nat} {xs : List X} {fr : Bool} {rows : Rows} {W : World} {vs : List Value} (h : CallOk P f xs (bo true) rows fr) (ha : All2 (XR W (gI W)) vs xs) : Calls P f vs.toArray W fun e W' => e = .returned (.bool true) ∧ Below W.heap.size W W' :=
  (h.calls W vs (gI W) (gI_other W) (gI_lt W) ha).mono fun e W' hh => by
    obtain ⟨v, g', rfl, hf, _, hx, _⟩ := hh
    have := (raw_of hx).1
    exact ⟨by rw [this], hf.below⟩
end Go.Proofs.YtncabdcaamkhiaaG
/- The seat's types, as a table (written by gt.py, a program of this session's own). -/
namespace Go.Proofs.YtncabdcaamkhiaaG
open Go Go.Proofs
set_option linter.defProp false
set_option maxRecDepth 100000
def ti2 : TI := ⟨.int .i64, 1, 8, [.raw (.int .i64 0)]⟩
theorem ti2_ok : TIok Try.prog 2 ti2 := ⟨by kernel_rfl, by kernel_rfl, by kernel_rfl⟩
def ti3 : TI := ⟨.int .i64, 1, 8, [.raw (.int .i64 0)]⟩
theorem ti3_ok : TIok Try.prog 3 ti3 := ⟨by kernel_rfl, by kernel_rfl, by kernel_rfl⟩
def ti4 : TI := ⟨.bool, 1, 1, [.raw (.bool false)]⟩
theorem ti4_ok : TIok Try.prog 4 ti4 := ⟨by kernel_rfl, by kernel_rfl, by kernel_rfl⟩
def ti5 : TI := ⟨.int .u8, 1, 1, [.raw (.int .u8 0)]⟩
theorem ti5_ok : TIok Try.prog 5 ti5 := ⟨by kernel_rfl, by kernel_rfl, by kernel_rfl⟩
def ti6 : TI := ⟨.int .u8, 1, 1, [.raw (.int .u8 0)]⟩
theorem ti6_ok : TIok Try.prog 6 ti6 := ⟨by kernel_rfl, by kernel_rfl, by kernel_rfl⟩
def ti7 : TI := ⟨.struct [(2, 0), (3, 1), (4, 2), (6, 3)], 4, 24, [.raw (.int .i64 0), .raw (.int .i64 0), .raw (.bool false), .raw (.int .u8 0)]⟩
theorem ti7_ok : TIok Try.prog 7 ti7 := ⟨by kernel_rfl, by kernel_rfl, by kernel_rfl⟩
def ti8 : TI := ⟨.struct [(2, 0), (3, 1), (4, 2), (6, 3)], 4, 24, [.raw (.int .i64 0), .raw (.int .i64 0), .raw (.bool false), .raw (.int .u8 0)]⟩
theorem ti8_ok : TIok Try.prog 8 ti8 := ⟨by kernel_rfl, by kernel_rfl, by kernel_rfl⟩
def ti9 : TI := ⟨.str, 1, 16, [.raw (.string "".toUTF8)]⟩
theorem ti9_ok : TIok Try.prog 9 ti9 := ⟨by kernel_rfl, by kernel_rfl, by kernel_rfl⟩
def ti10 : TI := ⟨.str, 1, 16, [.raw (.string "".toUTF8)]⟩
theorem ti10_ok : TIok Try.prog 10 ti10 := ⟨by kernel_rfl, by kernel_rfl, by kernel_rfl⟩
def ti11 : TI := ⟨.str, 1, 16, [.raw (.string "".toUTF8)]⟩
theorem ti11_ok : TIok Try.prog 11 ti11 := ⟨by kernel_rfl, by kernel_rfl, by kernel_rfl⟩
def ti12 : TI := ⟨.int .u64, 1, 8, [.raw (.int .u64 0)]⟩
theorem ti12_ok : TIok Try.prog 12 ti12 := ⟨by kernel_rfl, by kernel_rfl, by kernel_rfl⟩
def ti13 : TI := ⟨.struct [(9, 0), (12, 1)], 2, 24, [.raw (.string "".toUTF8), .raw (.int .u64 0)]⟩
theorem ti13_ok : TIok Try.prog 13 ti13 := ⟨by kernel_rfl, by kernel_rfl, by kernel_rfl⟩
def ti14 : TI := ⟨.struct [(9, 0), (12, 1)], 2, 24, [.raw (.string "".toUTF8), .raw (.int .u64 0)]⟩
theorem ti14_ok : TIok Try.prog 14 ti14 := ⟨by kernel_rfl, by kernel_rfl, by kernel_rfl⟩
def ti15 : TI := ⟨.ptr 94, 1, 8, [.raw (.pointer none)]⟩
theorem ti15_ok : TIok Try.prog 15 ti15 := ⟨by kernel_rfl, by kernel_rfl, by kernel_rfl⟩
def ti16 : TI := ⟨.ptr 97, 1, 8, [.raw (.pointer none)]⟩
theorem ti16_ok : TIok Try.prog 16 ti16 := ⟨by kernel_rfl, by kernel_rfl, by kernel_rfl⟩
def ti17 : TI := ⟨.ptr 106, 1, 8, [.raw (.pointer none)]⟩
theorem ti17_ok : TIok Try.prog 17 ti17 := ⟨by kernel_rfl, by kernel_rfl, by kernel_rfl⟩
def ti18 : TI := ⟨.struct [(17, 0)], 1, 8, [.raw (.pointer none)]⟩
theorem ti18_ok : TIok Try.prog 18 ti18 := ⟨by kernel_rfl, by kernel_rfl, by kernel_rfl⟩
def ti19 : TI := ⟨.struct [(17, 0)], 1, 8, [.raw (.pointer none)]⟩
theorem ti19_ok : TIok Try.prog 19 ti19 := ⟨by kernel_rfl, by kernel_rfl, by kernel_rfl⟩
def ti20 : TI := ⟨.iface, 1, 16, [.raw (.nilIface)]⟩
theorem ti20_ok : TIok Try.prog 20 ti20 := ⟨by kernel_rfl, by kernel_rfl, by kernel_rfl⟩
def ti21 : TI := ⟨.int .i32, 1, 4, [.raw (.int .i32 0)]⟩
theorem ti21_ok : TIok Try.prog 21 ti21 := ⟨by kernel_rfl, by kernel_rfl, by kernel_rfl⟩
def ti22 : TI := ⟨.slice 21, 1, 24, [.nil 21 1]⟩
theorem ti22_ok : TIok Try.prog 22 ti22 := ⟨by kernel_rfl, by kernel_rfl, by kernel_rfl⟩
def ti23 : TI := ⟨.slice 3, 1, 24, [.nil 3 1]⟩
theorem ti23_ok : TIok Try.prog 23 ti23 := ⟨by kernel_rfl, by kernel_rfl, by kernel_rfl⟩
def ti25 : TI := ⟨.slice 42, 1, 24, [.nil 42 2]⟩
theorem ti25_ok : TIok Try.prog 25 ti25 := ⟨by kernel_rfl, by kernel_rfl, by kernel_rfl⟩
def ti26 : TI := ⟨.int .i64, 1, 8, [.raw (.int .i64 0)]⟩
theorem ti26_ok : TIok Try.prog 26 ti26 := ⟨by kernel_rfl, by kernel_rfl, by kernel_rfl⟩
def ti35 : TI := ⟨.struct [(22, 0), (23, 1), (23, 2)], 3, 72, [.nil 21 1, .nil 3 1, .nil 3 1]⟩
theorem ti35_ok : TIok Try.prog 35 ti35 := ⟨by kernel_rfl, by kernel_rfl, by kernel_rfl⟩
def ti36 : TI := ⟨.struct [(22, 0), (23, 1), (23, 2)], 3, 72, [.nil 21 1, .nil 3 1, .nil 3 1]⟩
theorem ti36_ok : TIok Try.prog 36 ti36 := ⟨by kernel_rfl, by kernel_rfl, by kernel_rfl⟩
def ti42 : TI := ⟨.arr 2 3, 2, 16, [.raw (.int .i64 0), .raw (.int .i64 0)]⟩
theorem ti42_ok : TIok Try.prog 42 ti42 := ⟨by kernel_rfl, by kernel_rfl, by kernel_rfl⟩
def ti47 : TI := ⟨.int .u64, 1, 8, [.raw (.int .u64 0)]⟩
theorem ti47_ok : TIok Try.prog 47 ti47 := ⟨by kernel_rfl, by kernel_rfl, by kernel_rfl⟩
def ti50 : TI := ⟨.slice 52, 1, 24, [.nil 52 2]⟩
theorem ti50_ok : TIok Try.prog 50 ti50 := ⟨by kernel_rfl, by kernel_rfl, by kernel_rfl⟩
def ti51 : TI := ⟨.struct [(21, 0), (3, 1)], 2, 16, [.raw (.int .i32 0), .raw (.int .i64 0)]⟩
theorem ti51_ok : TIok Try.prog 51 ti51 := ⟨by kernel_rfl, by kernel_rfl, by kernel_rfl⟩
def ti52 : TI := ⟨.struct [(21, 0), (3, 1)], 2, 16, [.raw (.int .i32 0), .raw (.int .i64 0)]⟩
theorem ti52_ok : TIok Try.prog 52 ti52 := ⟨by kernel_rfl, by kernel_rfl, by kernel_rfl⟩
def ti61 : TI := ⟨.other, 1, 8, [.raw (.map none)]⟩
theorem ti61_ok : TIok Try.prog 61 ti61 := ⟨by kernel_rfl, by kernel_rfl, by kernel_rfl⟩
def ti65 : TI := ⟨.int .u64, 1, 8, [.raw (.int .u64 0)]⟩
theorem ti65_ok : TIok Try.prog 65 ti65 := ⟨by kernel_rfl, by kernel_rfl, by kernel_rfl⟩
def ti71 : TI := ⟨.int .i64, 1, 8, [.raw (.int .i64 0)]⟩
theorem ti71_ok : TIok Try.prog 71 ti71 := ⟨by kernel_rfl, by kernel_rfl, by kernel_rfl⟩
def ti79 : TI := ⟨.int .u32, 1, 4, [.raw (.int .u32 0)]⟩
theorem ti79_ok : TIok Try.prog 79 ti79 := ⟨by kernel_rfl, by kernel_rfl, by kernel_rfl⟩
def ti83 : TI := ⟨.int .u64, 1, 8, [.raw (.int .u64 0)]⟩
theorem ti83_ok : TIok Try.prog 83 ti83 := ⟨by kernel_rfl, by kernel_rfl, by kernel_rfl⟩
def ti87 : TI := ⟨.ptr 3, 1, 8, [.raw (.pointer none)]⟩
theorem ti87_ok : TIok Try.prog 87 ti87 := ⟨by kernel_rfl, by kernel_rfl, by kernel_rfl⟩
def ti89 : TI := ⟨.ptr 83, 1, 8, [.raw (.pointer none)]⟩
theorem ti89_ok : TIok Try.prog 89 ti89 := ⟨by kernel_rfl, by kernel_rfl, by kernel_rfl⟩
def ti93 : TI := ⟨.struct [(17, 0), (17, 1), (17, 2), (9, 3)], 4, 40, [.raw (.pointer none), .raw (.pointer none), .raw (.pointer none), .raw (.string "".toUTF8)]⟩
theorem ti93_ok : TIok Try.prog 93 ti93 := ⟨by kernel_rfl, by kernel_rfl, by kernel_rfl⟩
def ti94 : TI := ⟨.struct [(17, 0), (17, 1), (17, 2), (9, 3)], 4, 40, [.raw (.pointer none), .raw (.pointer none), .raw (.pointer none), .raw (.string "".toUTF8)]⟩
theorem ti94_ok : TIok Try.prog 94 ti94 := ⟨by kernel_rfl, by kernel_rfl, by kernel_rfl⟩
def ti95 : TI := ⟨.arr 0 16, 0, 0, []⟩
theorem ti95_ok : TIok Try.prog 95 ti95 := ⟨by kernel_rfl, by kernel_rfl, by kernel_rfl⟩
def ti96 : TI := ⟨.struct [(95, 0)], 0, 0, []⟩
theorem ti96_ok : TIok Try.prog 96 ti96 := ⟨by kernel_rfl, by kernel_rfl, by kernel_rfl⟩
def ti97 : TI := ⟨.struct [(95, 0)], 0, 0, []⟩
theorem ti97_ok : TIok Try.prog 97 ti97 := ⟨by kernel_rfl, by kernel_rfl, by kernel_rfl⟩
def ti99 : TI := ⟨.int .u8, 1, 1, [.raw (.int .u8 0)]⟩
theorem ti99_ok : TIok Try.prog 99 ti99 := ⟨by kernel_rfl, by kernel_rfl, by kernel_rfl⟩
def ti100 : TI := ⟨.int .u8, 1, 1, [.raw (.int .u8 0)]⟩
theorem ti100_ok : TIok Try.prog 100 ti100 := ⟨by kernel_rfl, by kernel_rfl, by kernel_rfl⟩
def ti102 : TI := ⟨.ptr 5, 1, 8, [.raw (.pointer none)]⟩
theorem ti102_ok : TIok Try.prog 102 ti102 := ⟨by kernel_rfl, by kernel_rfl, by kernel_rfl⟩
def ti103 : TI := ⟨.int .i32, 1, 4, [.raw (.int .i32 0)]⟩
theorem ti103_ok : TIok Try.prog 103 ti103 := ⟨by kernel_rfl, by kernel_rfl, by kernel_rfl⟩
def ti104 : TI := ⟨.int .i32, 1, 4, [.raw (.int .i32 0)]⟩
theorem ti104_ok : TIok Try.prog 104 ti104 := ⟨by kernel_rfl, by kernel_rfl, by kernel_rfl⟩
def ti105 : TI := ⟨.struct [(12, 0), (12, 1), (79, 2), (99, 3), (5, 4), (5, 5), (100, 6), (101, 7), (102, 8), (103, 9), (104, 10)], 11, 48, [.raw (.int .u64 0), .raw (.int .u64 0), .raw (.int .u32 0), .raw (.int .u8 0), .raw (.int .u8 0), .raw (.int .u8 0), .raw (.int .u8 0), .raw (.nilFunc), .raw (.pointer none), .raw (.int .i32 0), .raw (.int .i32 0)]⟩
theorem ti105_ok : TIok Try.prog 105 ti105 := ⟨by kernel_rfl, by kernel_rfl, by kernel_rfl⟩
def ti106 : TI := ⟨.struct [(12, 0), (12, 1), (79, 2), (99, 3), (5, 4), (5, 5), (100, 6), (101, 7), (102, 8), (103, 9), (104, 10)], 11, 48, [.raw (.int .u64 0), .raw (.int .u64 0), .raw (.int .u32 0), .raw (.int .u8 0), .raw (.int .u8 0), .raw (.int .u8 0), .raw (.int .u8 0), .raw (.nilFunc), .raw (.pointer none), .raw (.int .i32 0), .raw (.int .i32 0)]⟩
theorem ti106_ok : TIok Try.prog 106 ti106 := ⟨by kernel_rfl, by kernel_rfl, by kernel_rfl⟩
def ti107 : TI := ⟨.other, 1, 8, [.raw (.pointer none)]⟩
theorem ti107_ok : TIok Try.prog 107 ti107 := ⟨by kernel_rfl, by kernel_rfl, by kernel_rfl⟩
def T : Tab
  | 2 => some ti2
  | 3 => some ti3
  | 4 => some ti4
  | 5 => some ti5
  | 6 => some ti6
  | 7 => some ti7
  | 8 => some ti8
  | 9 => some ti9
  | 10 => some ti10
  | 11 => some ti11
  | 12 => some ti12
  | 13 => some ti13
  | 14 => some ti14
  | 15 => some ti15
  | 16 => some ti16
  | 17 => some ti17
  | 18 => some ti18
  | 19 => some ti19
  | 20 => some ti20
  | 21 => some ti21
  | 22 => some ti22
  | 23 => some ti23
  | 25 => some ti25
  | 26 => some ti26
  | 35 => some ti35
  | 36 => some ti36
  | 42 => some ti42
  | 47 => some ti47
  | 50 => some ti50
  | 51 => some ti51
  | 52 => some ti52
  | 61 => some ti61
  | 65 => some ti65
  | 71 => some ti71
  | 79 => some ti79
  | 83 => some ti83
  | 87 => some ti87
  | 89 => some ti89
  | 93 => some ti93
  | 94 => some ti94
  | 95 => some ti95
  | 96 => some ti96
  | 97 => some ti97
  | 99 => some ti99
  | 100 => some ti100
  | 102 => some ti102
  | 103 => some ti103
  | 104 => some ti104
  | 105 => some ti105
  | 106 => some ti106
  | 107 => some ti107
  | _ => none
def ET := And.intro @ti2.eq_1 <| And.intro @ti3.eq_1 <| And.intro @ti4.eq_1 <| And.intro @ti5.eq_1 <| And.intro @ti6.eq_1 <| And.intro @ti7.eq_1 <| And.intro @ti8.eq_1 <| And.intro @ti9.eq_1 <| And.intro @ti10.eq_1 <| And.intro @ti11.eq_1 <| And.intro @ti12.eq_1 <| And.intro @ti13.eq_1 <| And.intro @ti14.eq_1 <| And.intro @ti15.eq_1 <| And.intro @ti16.eq_1 <| And.intro @ti17.eq_1 <| And.intro @ti18.eq_1 <| And.intro @ti19.eq_1 <| And.intro @ti20.eq_1 <| And.intro @ti21.eq_1 <| And.intro @ti22.eq_1 <| And.intro @ti23.eq_1 <| And.intro @ti25.eq_1 <| And.intro @ti26.eq_1 <| And.intro @ti35.eq_1 <| And.intro @ti36.eq_1 <| And.intro @ti42.eq_1 <| And.intro @ti47.eq_1 <| And.intro @ti50.eq_1 <| And.intro @ti51.eq_1 <| And.intro @ti52.eq_1 <| And.intro @ti61.eq_1 <| And.intro @ti65.eq_1 <| And.intro @ti71.eq_1 <| And.intro @ti79.eq_1 <| And.intro @ti83.eq_1 <| And.intro @ti87.eq_1 <| And.intro @ti89.eq_1 <| And.intro @ti93.eq_1 <| And.intro @ti94.eq_1 <| And.intro @ti95.eq_1 <| And.intro @ti96.eq_1 <| And.intro @ti97.eq_1 <| And.intro @ti99.eq_1 <| And.intro @ti100.eq_1 <| And.intro @ti102.eq_1 <| And.intro @ti103.eq_1 <| And.intro @ti104.eq_1 <| And.intro @ti105.eq_1 <| And.intro @ti106.eq_1 <| @ti107.eq_1
theorem T_ok : Tok Try.prog T := by
  intro t i h
  unfold T at h
  split at h
  · cases h; exact ti2_ok
  · cases h; exact ti3_ok
  · cases h; exact ti4_ok
  · cases h; exact ti5_ok
  · cases h; exact ti6_ok
  · cases h; exact ti7_ok
  · cases h; exact ti8_ok
  · cases h; exact ti9_ok
  · cases h; exact ti10_ok
  · cases h; exact ti11_ok
  · cases h; exact ti12_ok
  · cases h; exact ti13_ok
  · cases h; exact ti14_ok
  · cases h; exact ti15_ok
  · cases h; exact ti16_ok
  · cases h; exact ti17_ok
  · cases h; exact ti18_ok
  · cases h; exact ti19_ok
  · cases h; exact ti20_ok
  · cases h; exact ti21_ok
  · cases h; exact ti22_ok
  · cases h; exact ti23_ok
  · cases h; exact ti25_ok
  · cases h; exact ti26_ok
  · cases h; exact ti35_ok
  · cases h; exact ti36_ok
  · cases h; exact ti42_ok
  · cases h; exact ti47_ok
  · cases h; exact ti50_ok
  · cases h; exact ti51_ok
  · cases h; exact ti52_ok
  · cases h; exact ti61_ok
  · cases h; exact ti65_ok
  · cases h; exact ti71_ok
  · cases h; exact ti79_ok
  · cases h; exact ti83_ok
  · cases h; exact ti87_ok
  · cases h; exact ti89_ok
  · cases h; exact ti93_ok
  · cases h; exact ti94_ok
  · cases h; exact ti95_ok
  · cases h; exact ti96_ok
  · cases h; exact ti97_ok
  · cases h; exact ti99_ok
  · cases h; exact ti100_ok
  · cases h; exact ti102_ok
  · cases h; exact ti103_ok
  · cases h; exact ti104_ok
  · cases h; exact ti105_ok
  · cases h; exact ti106_ok
  · cases h; exact ti107_ok
  · cases h
end Go.Proofs.YtncabdcaamkhiaaG
/- G17: what is known of functions: whatever has been shown of them. -/
namespace Go.Proofs.YtncabdcaamkhiaaG
open Go Go.RowKit Go.Proofs
set_option linter.unusedSimpArgs false
/-- Functions that are handed an own row, as their first argument. -/
def mvB : Nat → Bool
  | _ => false
/-- Functions that are lent own variables. -/
def bxB : Nat → Bool
  | _ => false
/-- Functions that sort an own row in its place. -/
def sxB : Nat → Bool
  | 20 => true
  | _ => false
/-- Every function of which a contract is shown. -/
def orc (P : Program) : Orc := ⟨fun f args K => ∃ res rows fr, CallOk P f args res rows fr ∧ K res rows fr, fun gf caps K => ∃ els, IterOk P gf caps els ∧ K els, fun f row args K => ∃ res rows, CallM P f row args res rows ∧ K res rows, mvB, fun f bs args K => ∃ out, CallB P f bs args out ∧ K out, bxB, fun f row args K => ∃ ys, CallS P f row args ys ∧ K ys, sxB⟩
theorem orc_mv (P f) : (orc P).mv f = mvB f := rfl
theorem orc_bx (P f) : (orc P).bx f = bxB f := rfl
theorem orc_sx (P f) : (orc P).sx f = sxB f := rfl
theorem orc_s {P : Program} {f row args K ys} (h : CallS P f row args ys) (hK : K ys) : (orc P).s f row args K := ⟨ys, h, hK⟩
theorem orc_ok (P : Program) : OrcOk P (orc P) := ⟨fun _ _ _ _ h => h, fun _ _ _ _ h => h, fun _ _ _ _ h => h, fun _ _ _ h => h, fun _ _ _ h => h⟩
theorem orc_i {P : Program} {f args K res rows fr} (h : CallOk P f args res rows fr) (hK : K res rows fr) : (orc P).f f args K := ⟨res, rows, fr, h, hK⟩
theorem orc_b {P : Program} {f args K b rows fr} (h : CallOk P f args (bo b) rows fr) (h1 : b = true → K (bo true) rows fr) (h2 : b = false → K (bo false) rows fr) : (orc P).f f args K := by
  refine ⟨_, _, _, h, ?_⟩
  cases b
  · exact h2 rfl
  · exact h1 rfl
theorem mixed : Try.prog.follows .mixedOrders = true := by kernel_rfl
end Go.Proofs.YtncabdcaamkhiaaG
namespace Go.Proofs.YtncabdcaamkhiaaG
open Go Go.RowKit Go.Proofs
set_option linter.unusedSimpArgs false
abbrev i32 (n : Int) : X := .p (.one (.v (.raw (.int .i32 n))))
/-- Runes. -/
def rn (l : List Int) : List SV := l.map fun n => .raw (.int .i32 n)
theorem rn_len (l : List Int) : (rn l).length = l.length := by simp [rn]
theorem tv_rn {l : List Int} {j : Nat} (h : j < l.length) : (List.map TV.v (rn l)).getD j .dead = .v (.raw (.int .i32 (l.getD j 0))) := by
  simp [rn, List.getD, List.getElem?_eq_getElem h]
abbrev R32 (n : Int) : Prop := -2147483648 ≤ n ∧ n ≤ 2147483647
end Go.Proofs.YtncabdcaamkhiaaG
namespace Go.Proofs.YtncabdcaamkhiaaG
open Go Go.RowKit Go.Proofs
set_option linter.unusedSimpArgs false
/-- The bytes of a number; 0: none. -/
def szU (n : Int) : Int := if n < 0 ∨ n > 1114111 ∨ (55296 ≤ n ∧ n ≤ 57343) then 0 else if n < 128 then 1 else if n < 2048 then 2 else if n < 65536 then 3 else 4
end Go.Proofs.YtncabdcaamkhiaaG
namespace Go.Proofs.YtncabdcaamkhiaaG
open Go Go.RowKit Go.Proofs
set_option linter.unusedSimpArgs false
abbrev R32s (l : List Int) : Prop := ∀ n ∈ l, R32 n
theorem R32s.at {l : List Int} (h : R32s l) {j : Nat} (hj : j < l.length) : R32 (l.getD j 0) := by
  rw [List.getD_eq_getElem?_getD, List.getElem?_eq_getElem hj]; exact h _ (List.getElem_mem hj)
theorem leastN {p : Nat → Prop} (h : ∃ n, p n) : ∃ n, p n ∧ ∀ k, p k → n ≤ k := by
  obtain ⟨n, hn⟩ := h
  induction n using Nat.strongRecOn with
  | _ n ih =>
    by_cases hs : ∃ k, k < n ∧ p k
    · obtain ⟨k, hk, hp⟩ := hs; exact ih k hk hp
    · exact ⟨n, hn, fun k hp => Nat.le_of_not_lt fun hlt => hs ⟨k, hlt, hp⟩⟩
def scal (l : List Int) : Prop := ∀ i, i < l.length → szU (l.getD i 0) ≠ 0
instance (l : List Int) : Decidable (scal l) := by unfold scal; infer_instance
end Go.Proofs.YtncabdcaamkhiaaG
namespace Go.Proofs.YtncabdcaamkhiaaG
open Go Go.RowKit Go.Proofs
set_option linter.unusedSimpArgs false
theorem rn_raw {l : List Int} : ∀ x ∈ rn l, x.isRaw = true := by
  intro x hx; obtain ⟨n, _, rfl⟩ := List.mem_map.1 hx; rfl
theorem eq_of_getD {a b : List Int} (hl : a.length = b.length) (h : ∀ i, i < a.length → a.getD i 0 = b.getD i 0) : a = b := by
  refine List.ext_getElem hl fun i h1 h2 => ?_
  have := h i h1
  simpa [List.getD, List.getElem?_eq_getElem h1, List.getElem?_eq_getElem h2] using this
set_option maxRecDepth 10000 in
theorem same_ok (a b : List Int) (ha : a.length ≤ 2000000) (hb : b.length ≤ 2000000) : CallOk Try.prog 13 [sl (rn a), sl (rn b)] (bo (decide (a = b))) [] true := by
  refine fn_ok' T_ok (orc_ok _) mixed Try.func13 rfl (by kernel_rfl) (lv [[0, 1], [0, 1, 10], [4], [0, 1, 5], [0, 1, 5, 14], [0, 1, 5], [0, 1, 5, 25], [4], [4]]) 26 rfl (by simp) rfl (by simp [X.all, PX.all, TV.rawR, SV.isRaw]) ?_
  simp only [argsG, Nat.zero_add, Nat.reduceAdd]
  repeat' first
    | ((first
        | ((with_reducible refine vR_cons (by decide) ?_); generalize hk : KtR _ _ _ _ _ _ _ _ _ _ = k)
        | ((first
        | with_reducible refine vOps_cons' ?_) <;> generalize hk : Kt _ _ _ _ _ _ _ _ _ = k)) <;> (simp only [Try.f13, lv, E1, E2, E5, ET, T, orc_mv, noO_mv, mvB, orc_bx, noO_bx, bxB, orc_sx, noO_sx, sxB, fwd, fwds, inv, mOk, Int.toNat_natCast, Nat.div_one, Nat.mul_one, Int.reduceToNat, SB, List.not_mem_nil, ↓reduceIte, ne_eq, reduceCtorEq, Nat.reduceLT, Nat.reduceEqDiff, Nat.reduceAdd, Nat.reduceMul, Nat.reduceLeDiff, Nat.reduceDiv, Nat.reduceMod, Nat.reduceSub, Nat.reduceBEq, rn_len, List.length_map]; (try simp (disch := omega) only [wrap_in, Int.toNat_natCast, tv_rn]); subst hk))
    | with_reducible first | refine Kt_p ?_ | refine Kt_i (by kernel_rfl) ?_ | refine Kr_f (by kernel_rfl) ?_
    | (with_reducible refine Kr_t ?_; simp only [List.length_append, List.length_cons, List.length_nil, Nat.reduceAdd, Nat.reduceSub, List.drop_succ_cons, List.drop_zero])
    | with_reducible first | refine vR_nil ?_ | refine KtR_i (by kernel_rfl) ?_ | refine KrR_i (by kernel_rfl) ?_ | refine vR_skip (by decide) ?_
    | ((with_reducible refine vB_i ?_ ?_) <;> intro _ <;> (first | (exfalso; omega) | (exact absurd trivial ‹¬True›) | (try dsimp only [])))
    | ((with_reducible refine vOps_nil' ?_); refine Kr_i (by kernel_rfl) ?_; generalize hk : plain _ _ = G; simp only [lv, E3, E2, E5, rawX, deadX, SB, List.not_mem_nil, ↓reduceIte, ne_eq, reduceCtorEq, Nat.reduceLT, Nat.reduceEqDiff, Nat.reduceAdd, Nat.reduceMul, Nat.reduceLeDiff, Nat.reduceDiv, Nat.reduceMod, Nat.reduceSub, Nat.reduceBEq, rn_len, List.length_map] at hk; subst hk)
    | with_reducible refine vSeq_i ?_
    | with_reducible first | refine vRegion_i (by kernel_rfl) ?_ | refine Kv_i ?_
    | ((with_reducible apply vStrK_i); (focus (rfl; done)))
    | ((with_reducible refine imp_i ?_); intro _)
    | with_reducible first | refine Ks_n ?_ | refine Ks_r ?_ | refine Ks_e ?_ | refine Kl_e ?_ | refine Kx_n ?_ | refine Kl_r ?_ | refine vRet_i ?_ | refine vSkip_i ?_ | refine vExit_i ?_ | refine vBlock_i ?_ | refine Ks_p ?_ | refine Kl_p ?_ | refine blk_p ?_ | exact Kb_p | refine vGoto_i ?_ | refine vLabel_i ?_ | refine Ks_g ?_ | refine Kl_g ?_ | refine blk_g ?_ | refine jmp_g ?_ | refine jmp_n ?_ | refine jmp_r ?_ | refine nog_n ?_ | refine nog_r ?_ | refine blk_n ?_ | refine blk_r ?_ | refine blk_e ?_ | refine blk_o (by decide) ?_ | refine cp_t ?_ | refine cp_f ?_
    | ((with_reducible apply vCond_x); (focus (simp only [lv, E1, E2, E5, ET, T, orc_mv, noO_mv, mvB, orc_bx, noO_bx, bxB, orc_sx, noO_sx, sxB, fwd, fwds, inv, mOk, Int.toNat_natCast, Nat.div_one, Nat.mul_one, Int.reduceToNat, SB, List.not_mem_nil, ↓reduceIte, ne_eq, reduceCtorEq, Nat.reduceLT, Nat.reduceEqDiff, Nat.reduceAdd, Nat.reduceMul, Nat.reduceLeDiff, Nat.reduceDiv, Nat.reduceMod, Nat.reduceSub, Nat.reduceBEq, rn_len, List.length_map]; with_reducible first | exact Eq.refl (bo true) | exact Eq.refl (bo false))))
    | ((with_reducible refine And.intro ?_ ?_); (focus (try omega)))
  · rename_i hc
    have hc' : a.length = b.length := by omega
    refine vLoop_s (fun k : Nat => [(.t 0, .t (sl (rn a))), (.t 1, .t (sl (rn b))), (.t 5, .t (i64 k))]) (fun k => k ≤ a.length ∧ ∀ i, i < k → a.getD i 0 = b.getD i 0) (fun k => a.length - k) 0 ⟨by omega, by omega⟩ rfl ?_
    rintro k ⟨hk, hlt⟩
    repeat' first
      | ((first
          | ((with_reducible refine vR_cons (by decide) ?_); generalize hk : KtR _ _ _ _ _ _ _ _ _ _ = k)
          | ((first
          | with_reducible refine vOps_cons' ?_) <;> generalize hk : Kt _ _ _ _ _ _ _ _ _ = k)) <;> (simp only [Try.f13, lv, E1, E2, E5, ET, T, orc_mv, noO_mv, mvB, orc_bx, noO_bx, bxB, orc_sx, noO_sx, sxB, fwd, fwds, inv, mOk, Int.toNat_natCast, Nat.div_one, Nat.mul_one, Int.reduceToNat, SB, List.not_mem_nil, ↓reduceIte, ne_eq, reduceCtorEq, Nat.reduceLT, Nat.reduceEqDiff, Nat.reduceAdd, Nat.reduceMul, Nat.reduceLeDiff, Nat.reduceDiv, Nat.reduceMod, Nat.reduceSub, Nat.reduceBEq, rn_len, List.length_map]; (try simp (disch := omega) only [wrap_in, Int.toNat_natCast, tv_rn]); subst hk))
      | with_reducible first | refine Kt_p ?_ | refine Kt_i (by kernel_rfl) ?_ | refine Kr_f (by kernel_rfl) ?_
      | (with_reducible refine Kr_t ?_; simp only [List.length_append, List.length_cons, List.length_nil, Nat.reduceAdd, Nat.reduceSub, List.drop_succ_cons, List.drop_zero])
      | with_reducible first | refine vR_nil ?_ | refine KtR_i (by kernel_rfl) ?_ | refine KrR_i (by kernel_rfl) ?_ | refine vR_skip (by decide) ?_
      | ((with_reducible refine vB_i ?_ ?_) <;> intro _ <;> (first | (exfalso; omega) | (exact absurd trivial ‹¬True›) | (try dsimp only [])))
      | ((with_reducible refine vOps_nil' ?_); refine Kr_i (by kernel_rfl) ?_; generalize hk : plain _ _ = G; simp only [lv, E3, E2, E5, rawX, deadX, SB, List.not_mem_nil, ↓reduceIte, ne_eq, reduceCtorEq, Nat.reduceLT, Nat.reduceEqDiff, Nat.reduceAdd, Nat.reduceMul, Nat.reduceLeDiff, Nat.reduceDiv, Nat.reduceMod, Nat.reduceSub, Nat.reduceBEq, rn_len, List.length_map] at hk; subst hk)
      | with_reducible refine vSeq_i ?_
      | with_reducible first | refine vRegion_i (by kernel_rfl) ?_ | refine Kv_i ?_
      | ((with_reducible apply vStrK_i); (focus (rfl; done)))
      | ((with_reducible refine imp_i ?_); intro _)
      | with_reducible first | refine Ks_n ?_ | refine Ks_r ?_ | refine Ks_e ?_ | refine Kl_e ?_ | refine Kx_n ?_ | refine Kl_r ?_ | refine vRet_i ?_ | refine vSkip_i ?_ | refine vExit_i ?_ | refine vBlock_i ?_ | refine Ks_p ?_ | refine Kl_p ?_ | refine blk_p ?_ | exact Kb_p | refine vGoto_i ?_ | refine vLabel_i ?_ | refine Ks_g ?_ | refine Kl_g ?_ | refine blk_g ?_ | refine jmp_g ?_ | refine jmp_n ?_ | refine jmp_r ?_ | refine nog_n ?_ | refine nog_r ?_ | refine blk_n ?_ | refine blk_r ?_ | refine blk_e ?_ | refine blk_o (by decide) ?_ | refine cp_t ?_ | refine cp_f ?_
      | ((with_reducible apply vCond_x); (focus (simp only [lv, E1, E2, E5, ET, T, orc_mv, noO_mv, mvB, orc_bx, noO_bx, bxB, orc_sx, noO_sx, sxB, fwd, fwds, inv, mOk, Int.toNat_natCast, Nat.div_one, Nat.mul_one, Int.reduceToNat, SB, List.not_mem_nil, ↓reduceIte, ne_eq, reduceCtorEq, Nat.reduceLT, Nat.reduceEqDiff, Nat.reduceAdd, Nat.reduceMul, Nat.reduceLeDiff, Nat.reduceDiv, Nat.reduceMod, Nat.reduceSub, Nat.reduceBEq, rn_len, List.length_map]; with_reducible first | exact Eq.refl (bo true) | exact Eq.refl (bo false))))
      | ((with_reducible refine And.intro ?_ ?_); (focus (try omega)))
    · rename_i heq
      exact Kl_n ⟨k + 1, ⟨by omega, fun i hi => by rcases Nat.lt_or_eq_of_le (Nat.le_of_lt_succ hi) with h1 | h1; exact hlt i h1; exact h1 ▸ heq⟩, by omega, by simp only [Int.natCast_add, Int.natCast_one]⟩
    · refine Kf_r ?_
      simp only [Try.f13, E4, E3, E2, E5, rawX, deadX, ET, T, SB, List.not_mem_nil, ↓reduceIte, ne_eq, reduceCtorEq, Nat.reduceLT, Nat.reduceEqDiff, Nat.reduceAdd, Nat.reduceMul, Nat.reduceLeDiff, Nat.reduceDiv, Nat.reduceMod, Nat.reduceSub, Nat.reduceBEq, rn_len, List.length_map, X.p.injEq, X.tup.injEq, PX.one.injEq, PX.agg.injEq, TV.v.injEq, TV.sr.injEq, SV.raw.injEq, SV.sl.injEq, Value.bool.injEq, Value.int.injEq, List.cons.injEq, Prod.mk.injEq, true_and, and_true, and_self]
      rename_i hne
      symm; simp only [decide_eq_false_iff_not]
      intro e; subst e; exact hne rfl
    · refine Kf_r ?_
      simp only [Try.f13, E4, E3, E2, E5, rawX, deadX, ET, T, SB, List.not_mem_nil, ↓reduceIte, ne_eq, reduceCtorEq, Nat.reduceLT, Nat.reduceEqDiff, Nat.reduceAdd, Nat.reduceMul, Nat.reduceLeDiff, Nat.reduceDiv, Nat.reduceMod, Nat.reduceSub, Nat.reduceBEq, rn_len, List.length_map, X.p.injEq, X.tup.injEq, PX.one.injEq, PX.agg.injEq, TV.v.injEq, TV.sr.injEq, SV.raw.injEq, SV.sl.injEq, Value.bool.injEq, Value.int.injEq, List.cons.injEq, Prod.mk.injEq, true_and, and_true, and_self]
      symm; simp only [decide_eq_true_eq]
      exact eq_of_getD hc' fun i hi => hlt i (by omega)
  · refine Kf_r ?_
    simp only [Try.f13, E4, E3, E2, E5, rawX, deadX, ET, T, SB, List.not_mem_nil, ↓reduceIte, ne_eq, reduceCtorEq, Nat.reduceLT, Nat.reduceEqDiff, Nat.reduceAdd, Nat.reduceMul, Nat.reduceLeDiff, Nat.reduceDiv, Nat.reduceMod, Nat.reduceSub, Nat.reduceBEq, rn_len, List.length_map, X.p.injEq, X.tup.injEq, PX.one.injEq, PX.agg.injEq, TV.v.injEq, TV.sr.injEq, SV.raw.injEq, SV.sl.injEq, Value.bool.injEq, Value.int.injEq, List.cons.injEq, Prod.mk.injEq, true_and, and_true, and_self]
    rename_i hc
    symm; simp only [decide_eq_false_iff_not]
    intro e; subst e; exact hc rfl
end Go.Proofs.YtncabdcaamkhiaaG
/- M1: which brackets there are: a map is laid, looked into, and gone through in whatever order. -/
namespace Go.Proofs.YtncabdcaamkhiaaG
open Go Go.RowKit
set_option linter.unusedVariables false
set_option linter.unusedSimpArgs false
/-! ### a step that turns no tape -/
def TP (P : Program) {α : Type} (x : Sem α) : Prop := ∀ (w : World) (a : α) (w' : World), x.run P w = .ok a w' → w'.tape = w.tape
theorem TP.pure {P : Program} {α : Type} (a : α) : TP P (pure a : Sem α) := fun w b w' h => by cases h; rfl
theorem TP.halt {P : Program} {α : Type} (h : Halt) : TP P (Sem.halt h : Sem α) := fun w b w' h => by cases h
theorem TP.bind {P : Program} {α β : Type} {x : Sem α} {f : α → Sem β} (h : TP P x) (k : ∀ a, TP P (f a)) : TP P (x >>= f) := fun w b w' hr => by
  rw [Sem.run_bind] at hr
  cases hx : x.run P w with
  | ok a w1 => rw [hx] at hr; exact (k a w1 b w' hr).trans (h w a w1 hx)
  | halt e w1 => rw [hx] at hr; cases hr
theorem TP.getObj {P : Program} (r : Nat) : TP P (getObj r) := fun w b w' h => by
  simp only [Go.getObj, Sem.run] at h
  split at h <;> first | (cases h; rfl) | cases h
theorem TP.setObj {P : Program} (r : Nat) (o : Obj) : TP P (setObj r o) := fun w b w' h => by
  simp only [Go.setObj, Sem.run] at h
  split at h <;> first | (cases h; rfl) | cases h
theorem TP.choose {P : Program} (q : Question) : TP P (choose q) := fun w b w' h => by
  simp only [Go.choose, Sem.run] at h
  split at h <;> (cases h; rfl)
theorem next_tape (P : Program) (x : Value) (b : Bool) (t : TypeId) : TP P (Instr.next x b t) := by
  unfold Instr.next
  repeat' first
    | exact TP.pure _
    | exact TP.halt _
    | exact TP.getObj _
    | exact TP.setObj _ _
    | exact TP.choose _
    | refine TP.bind ?_ (fun _ => ?_)
    | split
/-! ### the brackets -/
def BR : List (Int × Int) := [(40, 41), (91, 93), (123, 125), (8261, 8262), (8317, 8318), (8333, 8334), (9001, 9002), (10214, 10215), (10216, 10217), (10218, 10219), (10220, 10221), (10222, 10223), (12296, 12297), (12298, 12299), (12300, 12301), (12302, 12303), (12304, 12305), (12308, 12309), (12310, 12311), (12312, 12313), (12314, 12315)]
def ents : Nat → List (Int × Int) → List MapEntry
  | _, [] => []
  | i, p :: l => ⟨.int .i32 p.1, .int .i32 p.2, i⟩ :: ents (i + 1) l
def esK (k : Nat) : Array MapEntry := (ents 0 (BR.take k)).toArray
def ES : Array MapEntry := esK 21
theorem ins {P : Program} (w : World) (es : Array MapEntry) (clock t k e : Nat) (key val : Value) (ht : P.underlying t = some (.map k e))
    (hc : ∀ W : World, (Instr.checkKey false 10000 k key).run P W = .ok () W) (hf : ∀ W : World, (Instr.findKey k key es.toList).run P W = .ok none W) :
    (Instr.mapUpdate t (.map (some w.heap.size)) key val).run P (w.alloc (.map es clock)) = .ok () (w.alloc (.map (es.push { key, val, born := clock }) (clock + 1))) := by
  have hb : (w.alloc (.map es clock)).heap[w.heap.size]? = some (.map es clock) := heap_alloc_new w _
  unfold Instr.mapUpdate
  simp only [Sem.run_bind, run_underlying ht, Result.andThen_ok, MapKept.run_getObj_map hb, hc, hf]
  simp only [setObj, Sem.run, hb]
  show Result.ok () ({ w.alloc (.map es clock) with heap := (w.heap.push (.map es clock)).setIfInBounds w.heap.size _ } : World) = _
  congr 1
  show ({ w with heap := _ } : World) = { w with heap := _ }
  congr 1
  apply Array.toList_inj.1
  simp
theorem map61 : Try.prog.underlying 61 = some (.map 21 21) := by kernel_rfl
theorem insK (w : World) (k : Nat) (p : Int × Int) (hc : ∀ W : World, (Instr.checkKey false 10000 21 (.int .i32 p.1)).run Try.prog W = .ok () W) (hf : ∀ W : World, (Instr.findKey 21 (.int .i32 p.1) (esK k).toList).run Try.prog W = .ok none W)
    (he : (esK k).push ⟨.int .i32 p.1, .int .i32 p.2, k⟩ = esK (k + 1)) :
    (Instr.mapUpdate 61 (.map (some w.heap.size)) (.int .i32 p.1) (.int .i32 p.2)).run Try.prog (w.alloc (.map (esK k) k)) = .ok () (w.alloc (.map (esK (k + 1)) (k + 1))) := by
  rw [ins w (esK k) k 61 21 21 (.int .i32 p.1) (.int .i32 p.2) map61 hc hf, he]
set_option maxRecDepth 1000000 in
set_option maxHeartbeats 4000000 in
theorem partners_calls (w : World) : Calls Try.prog 29 #[] w fun e w' => e = .returned (.map (some w.heap.size)) ∧ w' = w.alloc (.map ES 21) := by
  have hmk : (Instr.makeMap 61 none).run Try.prog w = .ok (.map (some w.heap.size)) (w.alloc (.map (esK 0) 0)) := by kernel_rfl
  have h0 := insK w 0 (40, 41) (fun W => by kernel_rfl) (fun W => by kernel_rfl) rfl
  have h1 := insK w 1 (91, 93) (fun W => by kernel_rfl) (fun W => by kernel_rfl) rfl
  have h2 := insK w 2 (123, 125) (fun W => by kernel_rfl) (fun W => by kernel_rfl) rfl
  have h3 := insK w 3 (8261, 8262) (fun W => by kernel_rfl) (fun W => by kernel_rfl) rfl
  have h4 := insK w 4 (8317, 8318) (fun W => by kernel_rfl) (fun W => by kernel_rfl) rfl
  have h5 := insK w 5 (8333, 8334) (fun W => by kernel_rfl) (fun W => by kernel_rfl) rfl
  have h6 := insK w 6 (9001, 9002) (fun W => by kernel_rfl) (fun W => by kernel_rfl) rfl
  have h7 := insK w 7 (10214, 10215) (fun W => by kernel_rfl) (fun W => by kernel_rfl) rfl
  have h8 := insK w 8 (10216, 10217) (fun W => by kernel_rfl) (fun W => by kernel_rfl) rfl
  have h9 := insK w 9 (10218, 10219) (fun W => by kernel_rfl) (fun W => by kernel_rfl) rfl
  have h10 := insK w 10 (10220, 10221) (fun W => by kernel_rfl) (fun W => by kernel_rfl) rfl
  have h11 := insK w 11 (10222, 10223) (fun W => by kernel_rfl) (fun W => by kernel_rfl) rfl
  have h12 := insK w 12 (12296, 12297) (fun W => by kernel_rfl) (fun W => by kernel_rfl) rfl
  have h13 := insK w 13 (12298, 12299) (fun W => by kernel_rfl) (fun W => by kernel_rfl) rfl
  have h14 := insK w 14 (12300, 12301) (fun W => by kernel_rfl) (fun W => by kernel_rfl) rfl
  have h15 := insK w 15 (12302, 12303) (fun W => by kernel_rfl) (fun W => by kernel_rfl) rfl
  have h16 := insK w 16 (12304, 12305) (fun W => by kernel_rfl) (fun W => by kernel_rfl) rfl
  have h17 := insK w 17 (12308, 12309) (fun W => by kernel_rfl) (fun W => by kernel_rfl) rfl
  have h18 := insK w 18 (12310, 12311) (fun W => by kernel_rfl) (fun W => by kernel_rfl) rfl
  have h19 := insK w 19 (12312, 12313) (fun W => by kernel_rfl) (fun W => by kernel_rfl) rfl
  have h20 := insK w 20 (12314, 12315) (fun W => by kernel_rfl) (fun W => by kernel_rfl) rfl
  simp only [Nat.reduceAdd] at *
  go_enter Try.func29, Try.ntmps29
  go_wp2
  go_ret
  exact ⟨rfl, rfl⟩
def lookP (l : List (Int × Int)) (r : Int) : Option Int := (l.find? fun p => p.1 == r).map (·.2)
def brF (r : Int) : Int × Int := match lookP BR r with
  | some b => (1, b)
  | none => match BR.find? fun p => p.2 == r with
    | some p => (2, p.1)
    | none => (0, 0)
theorem brF_one {r b : Int} (h : lookP BR r = some b) : brF r = (1, b) := by unfold brF; rw [h]
theorem brF_two : ∀ p ∈ BR, lookP BR p.2 = none → brF p.2 = (2, p.1) := by decide
theorem brF_no {r : Int} (h : lookP BR r = none) (h2 : ∀ p ∈ BR, p.2 ≠ r) : brF r = (0, 0) := by
  have : BR.find? (fun p => p.2 == r) = none := List.find?_eq_none.2 fun p hp => by simpa using h2 p hp
  unfold brF; rw [h, this]
theorem find_ents (r : Int) : ∀ (l : List (Int × Int)) (i j : Nat), ∃ m : Option (Nat × Value), Instr.findNow (.int .i32) (.int .i32 r) (ents i l) j = some m ∧ m.map (·.2) = (lookP l r).map fun v => Value.int .i32 v
  | [], i, j => ⟨none, rfl, rfl⟩
  | p :: l, i, j => by
    obtain ⟨m, h1, h2⟩ := find_ents r l (i + 1) (j + 1)
    by_cases h : p.1 = r
    · refine ⟨some (j, .int .i32 p.2), ?_, ?_⟩
      · simp [ents, Instr.findNow, Instr.sameNow, h]
      · simp [lookP, List.find?_cons, h]
    · refine ⟨m, ?_, ?_⟩
      · have e : (r == p.1) = false := by simpa using fun q => h q.symm
        simp only [ents, Instr.findNow, Instr.sameNow, if_true, e]
        exact h1
      · have e : (p.1 == r) = false := by simpa using h
        rw [h2]
        simp [lookP, List.find?_cons, e]
theorem ES_list : ES.toList = ents 0 BR := rfl
theorem i21 : Try.prog.underlying 21 = some (.int .i32) := by kernel_rfl
theorem lookup_run (bm : Nat) (r : Int) (w : World) (hb : w.heap[bm]? = some (.map ES 21)) :
    (Instr.lookup 61 (.map (some bm)) (.int .i32 r) true).run Try.prog w = .ok (.tuple #[.int .i32 ((lookP BR r).getD 0), .bool (lookP BR r).isSome]) w := by
  obtain ⟨m, h1, h2⟩ := find_ents r BR 0 0
  have hf : (Instr.findKey 21 (.int .i32 r) ES.toList).run Try.prog w = .ok m w := by
    unfold Instr.findKey
    rw [Sem.run_bind, run_underlying i21, ES_list, Result.andThen_ok, h1]
    rfl
  have hc : (Instr.checkKey ES.isEmpty 10000 21 (.int .i32 r)).run Try.prog w = .ok () w := by kernel_rfl
  have hz : (zeroValue 21).run Try.prog w = .ok (.int .i32 0) w := by kernel_rfl
  unfold Instr.lookup
  simp only [Sem.run_bind, run_underlying map61, Result.andThen_ok, MapKept.run_getObj_map hb, Sem.run_pure, hc, hf]
  cases m with
  | none =>
    have h3 : lookP BR r = none := by cases q : lookP BR r with | none => rfl | some v => rw [q] at h2; cases h2
    rw [h3]
    simp only [Sem.run_bind, hz, Result.andThen_ok, Sem.run_pure]
    rfl
  | some z =>
    obtain ⟨k, v⟩ := z
    cases q : lookP BR r with
    | none => rw [q] at h2; cases h2
    | some u =>
      rw [q] at h2
      have h3 : v = .int .i32 u := Option.some.inj h2
      subst h3
      rfl
theorem below_alike {w w1 : World} (h : w1.Alike w) (ht : w1.tape = w.tape) (o : Obj) : Below w.heap.size w (w1.alloc o) :=
  ⟨h.2.1, ht, h.2.2, by show _ ≤ (w1.heap.push o).size; rw [h.1]; simp, fun k hk => by rw [heap_alloc_old w1 o (by rw [h.1]; exact hk), h.1]⟩
theorem stampES : MapKept.Stamped ES 21 := by
  refine ⟨by decide, by decide, ?_⟩
  have e : ES.toList.map (·.key) = (BR.map (·.1)).map (Value.int .i32) := rfl
  rw [e]
  exact List.Pairwise.map _ (fun a b (h : a ≠ b) => fun q => h (by injection q)) (show (BR.map (·.1)).Nodup by decide)
theorem ents_mem {x : MapEntry} : ∀ {l : List (Int × Int)} {i : Nat}, x ∈ ents i l → ∃ p ∈ l, x.key = .int .i32 p.1 ∧ x.val = .int .i32 p.2
  | [], i, h => by simp [ents] at h
  | p :: l, i, h => by
    rcases List.mem_cons.1 h with rfl | h
    · exact ⟨p, by simp, rfl, rfl⟩
    · obtain ⟨q, h1, h2⟩ := ents_mem h
      exact ⟨q, by simp [h1], h2⟩
theorem mem_ents {p : Int × Int} : ∀ {l : List (Int × Int)} {i : Nat}, p ∈ l → ∃ x ∈ ents i l, x.val = .int .i32 p.2
  | q :: l, i, h => by
    rcases List.mem_cons.1 h with rfl | h
    · exact ⟨_, by simp [ents]; left; rfl, rfl⟩
    · obtain ⟨x, h1, h2⟩ := mem_ents (i := i + 1) h
      exact ⟨x, by simp [ents, h1], h2⟩
set_option maxRecDepth 1000000 in
set_option maxHeartbeats 4000000 in
theorem other_calls (bm : Nat) (r : Int) (w : World) (hb : w.heap[bm]? = some (.map ES 21)) :
    Calls Try.prog 28 #[.map (some bm), .int .i32 r] w fun e w' => e = .returned (.tuple #[.int .i64 (brF r).1, .int .i32 (brF r).2]) ∧ Below w.heap.size w w' := by
  have hlk := lookup_run bm r w hb
  cases hp : lookP BR r with
  | some b =>
    rw [hp] at hlk
    rw [brF_one hp]
    simp only [Option.getD_some, Option.isSome_some] at hlk
    go_enter Try.func28, Try.ntmps28
    go_wp2
    go_ret2
    exact ⟨rfl, Below.refl _ _⟩
  | none =>
    rw [hp] at hlk
    simp only [Option.getD_none, Option.isSome_none] at hlk
    have hrg := run_range_map (P := Try.prog) w 61 21 21 bm ES 21 map61 hb
    go_enter Try.func28, Try.ntmps28
    go_wp2
    go_loopw [] (fun w' => ∃ (w1 : World) (seen : Array Nat), w1.Alike w ∧ w1.tape = w.tape ∧ w' = w1.alloc (.mapIter (some bm) 21 seen 21) ∧ ∀ x ∈ ES.toList, seen.contains x.born = true → ¬ x.val = .int .i32 r) (fun w' => (leftOf ES (w'.iterSeen w.heap.size)).size)
    case atStart => exact ⟨w, #[], ⟨rfl, rfl, rfl⟩, rfl, rfl, fun x _ h => by simp at h⟩
    case round =>
      obtain ⟨w1, seen, hal, htp, rfl, hno⟩ := hrel
      have hsz : w1.heap.size = w.heap.size := by rw [hal.1]
      have hb1 : w1.heap[bm]? = some (.map ES 21) := by rw [hal.1]; exact hb
      have law := run_next_map (P := Try.prog) w1 0 bm 21 21 seen ES 21 hb1 stampES.1 (Nat.le_refl _)
      rw [hsz] at law
      rcases law with ⟨h0, hrun⟩ | ⟨e, he, w2, hal2, hrun⟩
      · have hnx : ∀ ty, (Instr.next (.pointer (some ⟨w.heap.size, 0, none⟩)) false ty).run Try.prog (w1.alloc (.mapIter (some bm) 21 seen 21)) = _ := fun _ => hrun
        go_wp2
        go_ret2
        have hq : brF r = (0, 0) := brF_no hp fun p hpm => by
          obtain ⟨x, hx, hv⟩ := mem_ents (i := 0) hpm
          have := hno x (by rw [ES_list]; exact hx) (all_seen ES seen h0 x (by rw [ES_list]; exact hx))
          intro q
          exact this (by rw [hv, q])
        rw [hq]
        exact ⟨rfl, below_alike hal htp _⟩
      · obtain ⟨p, hpm, hkey, hval⟩ := ents_mem (l := BR) (i := 0) (by have := (mem_left he).1; rwa [ES_list] at this)
        have htp2 : w2.tape = w1.tape := show (w2.alloc _).tape = (w1.alloc _).tape from next_tape Try.prog _ _ _ _ _ _ hrun
        rw [hkey, hval] at hrun
        have hnx : ∀ ty, (Instr.next (.pointer (some ⟨w.heap.size, 0, none⟩)) false ty).run Try.prog (w1.alloc (.mapIter (some bm) 21 seen 21)) = _ := fun _ => hrun
        have hsz2 : w2.heap.size = w.heap.size := by rw [hal2.1, hal.1]
        have hb2 : w2.heap[bm]? = some (.map ES 21) := by rw [hal2.1]; exact hb1
        have hen := run_entry_map (P := Try.prog) w2 bm 21 seen ES 21 e hb2 (mem_left he).1 stampES.2.1
        rw [hsz2, hkey, hval] at hen
        have hal3 : w2.Alike w := ⟨hal2.1.trans hal.1, hal2.2.1.trans hal.2.1, hal2.2.2.trans hal.2.2⟩
        have htp3 : w2.tape = w.tape := htp2.trans htp
        go_wp2
        · rename_i heq
          go_ret2
          have hq : brF r = (2, p.1) := by
            have := brF_two p hpm
            rw [beq_iff_eq.1 heq] at this
            exact this hp
          rw [hq]
          exact ⟨rfl, below_alike hal3 htp3 _⟩
        · rename_i hne
          go_roundw
          case rel =>
            refine ⟨w2, seen.push e.born, hal3, htp3, rfl, fun x hx hc => ?_⟩
            rw [contains_push] at hc
            rcases Bool.or_eq_true _ _ ▸ hc with h1 | h1
            · exact hno x hx h1
            · have : x = e := born_inj stampES.2.1 hx (mem_left he).1 (beq_iff_eq.1 h1)
              subst this
              rw [hval]
              intro q
              injection q with _ q
              rw [q] at hne; simp at hne
          case measure =>
            rw [← hsz2, World.iterSeen_alloc, hsz2, ← hsz, World.iterSeen_alloc]
            exact left_shrinks ES seen e he
set_option maxRecDepth 1000000 in
theorem bracket_calls (r : Int) (w : World) :
    Calls Try.prog 17 #[.int .i32 r] w fun e w' => e = .returned (.tuple #[.int .i64 (brF r).1, .int .i32 (brF r).2]) ∧ Below w.heap.size w w' := by
  go_enter Try.func17, Try.ntmps17
  go_wp2_with (first | (go_at_call 29; refine (partners_calls _).mono ?_; rintro e w' ⟨rfl, rfl⟩) | (go_at_call 28; refine (other_calls _ r _ (heap_alloc_new w _)).mono ?_; rintro e w' ⟨rfl, hbl⟩))
  go_ret2
  exact ⟨rfl, (Below.refl _ w).alloc (Nat.le_refl _) _ |>.trans (hbl.mono (by simp))⟩
end Go.Proofs.YtncabdcaamkhiaaG
