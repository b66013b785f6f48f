/- Layer 1 in plain Lean: what is decoded; the document's reader of a form tells what the program's tells. -/
import Derived.Test.YtbdhclhioeeanaaPUx5
import Derived.Test.YtbdhclhioeeanaaPUx6
import Derived.Test.YtbdhclhioeeanaaPUx7
import Derived.Test.YtbdhclhioeeanaaPUx8
import Derived.Test.YtbdhclhioeeanaaU1
namespace Go.Proofs.Ytbdhclhioeeanaa.U
open Go.RowKit Go.Proofs.Ytbdhclhioeeanaa.PU Go.Proofs.YtbdhclhioeeanaaW.PrintWords Go.Proofs.YtbdhclhioeeanaaW.PrintLast

/-! ### the form at the front -/
abbrev nx := utf_next.p
def Bytes (l : List Int) : Prop := ∀ x ∈ l, 0 ≤ x ∧ x ≤ 255
theorem rd_byte {l : List Int} (h : Bytes l) (i : Nat) (hi : i < l.length) : 0 ≤ rd l i ∧ rd l i ≤ 255 := by
  have : rd l (i : Int) = l[i] := by simp [rd, List.getD, List.getElem?_eq_getElem hi]
  rw [this]; exact h _ (List.getElem_mem hi)
theorem cont_iff (x : Int) : utf_next.cont x = true ↔ 128 ≤ x ∧ x < 192 := by unfold utf_next.cont; simp
theorem size_one_iff (r : Int) : size r = 1 ↔ 0 ≤ r ∧ r < 128 := by
  refine ⟨size_one, fun h => ?_⟩
  unfold size utf_next.size
  rw [if_neg (by omega), if_neg (by omega), if_neg (by omega), if_pos (by omega)]
theorem size_two_iff (r : Int) : size r = 2 ↔ 128 ≤ r ∧ r < 2048 := by
  refine ⟨size_two, fun h => ?_⟩
  unfold size utf_next.size
  rw [if_neg (by omega), if_neg (by omega), if_neg (by omega), if_neg (by omega), if_pos (by omega)]
theorem size_three_iff (r : Int) : size r = 3 ↔ (2048 ≤ r ∧ r < 65536) ∧ ¬ (55296 ≤ r ∧ r < 57344) := by
  refine ⟨fun h => ⟨size_three h, fun h2 => ?_⟩, fun h => ?_⟩
  · unfold size utf_next.size at h
    rw [if_neg (by omega), if_neg (by omega), if_pos h2] at h
    omega
  · unfold size utf_next.size
    rw [if_neg (by omega), if_neg (by omega), if_neg h.2, if_neg (by omega), if_neg (by omega), if_pos (by omega)]
theorem size_four_iff (r : Int) : size r = 4 ↔ 65536 ≤ r ∧ r < 1114112 := by
  refine ⟨size_four, fun h => ?_⟩
  unfold size utf_next.size
  rw [if_neg (by omega), if_neg (by omega), if_neg (by omega), if_neg (by omega), if_neg (by omega), if_neg (by omega)]
theorem size_zero_iff (r : Int) : size r = 0 ↔ r < 0 ∨ 1114111 < r ∨ (55296 ≤ r ∧ r < 57344) := by
  have h1 := size_one_iff r
  have h2 := size_two_iff r
  have h3 := size_three_iff r
  have h4 := size_four_iff r
  have h5 := size_range r
  omega

/-- What the bytes at the front must be, that a form of n bytes stands there. -/
def Is (l : List Int) (n : Nat) : Prop :=
  (n = 1 ∧ 1 ≤ l.length ∧ rd l 0 < 128) ∨
  (n = 2 ∧ 2 ≤ l.length ∧ 192 ≤ rd l 0 ∧ rd l 0 < 224 ∧ utf_next.cont (rd l 1) = true ∧ size (utf_next.two l) = 2) ∨
  (n = 3 ∧ 3 ≤ l.length ∧ 224 ≤ rd l 0 ∧ rd l 0 < 240 ∧ utf_next.cont (rd l 1) = true ∧ utf_next.cont (rd l 2) = true ∧ size (utf_next.three l) = 3) ∨
  (n = 4 ∧ 4 ≤ l.length ∧ 240 ≤ rd l 0 ∧ rd l 0 < 248 ∧ utf_next.cont (rd l 1) = true ∧ utf_next.cont (rd l 2) = true ∧ utf_next.cont (rd l 3) = true ∧ size (utf_next.four l) = 4)
def val (l : List Int) (n : Nat) : Int := if n = 1 then rd l 0 else if n = 2 then utf_next.two l else if n = 3 then utf_next.three l else utf_next.four l

/-- The program's reader, by what stands there. -/
theorem nx_cases (l : List Int) : (∃ n : Nat, Is l n ∧ nx l = (val l n, (n : Int))) ∨ ((∀ n, ¬ Is l n) ∧ nx l = (0, 0)) := by
  unfold nx utf_next.p
  by_cases z : l.length = 0
  · right
    rw [if_pos z]
    refine ⟨fun n h => ?_, rfl⟩
    unfold Is at h
    omega
  rw [if_neg z]
  by_cases c1 : rd l 0 < 128
  · left
    rw [if_pos c1]
    exact ⟨1, .inl ⟨rfl, by omega, c1⟩, rfl⟩
  rw [if_neg c1]
  by_cases c2 : rd l 0 < 192
  · right
    rw [if_pos c2]
    refine ⟨fun n h => ?_, rfl⟩
    unfold Is at h
    omega
  rw [if_neg c2]
  by_cases c3 : rd l 0 < 224
  · rw [if_pos c3]
    split
    · rename_i h
      left
      exact ⟨2, .inr (.inl ⟨rfl, h.1, by omega, c3, h.2.1, h.2.2⟩), rfl⟩
    · rename_i h
      right
      refine ⟨fun n hn => ?_, rfl⟩
      rcases hn with hn | hn | hn | hn
      · omega
      · exact h ⟨hn.2.1, hn.2.2.2.2.1, hn.2.2.2.2.2⟩
      · omega
      · omega
  rw [if_neg c3]
  by_cases c4 : rd l 0 < 240
  · rw [if_pos c4]
    split
    · rename_i h
      left
      exact ⟨3, .inr (.inr (.inl ⟨rfl, h.1, by omega, c4, h.2.1, h.2.2.1, h.2.2.2⟩)), rfl⟩
    · rename_i h
      right
      refine ⟨fun n hn => ?_, rfl⟩
      rcases hn with hn | hn | hn | hn
      · omega
      · omega
      · exact h ⟨hn.2.1, hn.2.2.2.2.1, hn.2.2.2.2.2.1, hn.2.2.2.2.2.2⟩
      · omega
  rw [if_neg c4]
  by_cases c5 : rd l 0 < 248
  · rw [if_pos c5]
    split
    · rename_i h
      left
      exact ⟨4, .inr (.inr (.inr ⟨rfl, h.1, by omega, c5, h.2.1, h.2.2.1, h.2.2.2.1, h.2.2.2.2⟩)), rfl⟩
    · rename_i h
      right
      refine ⟨fun n hn => ?_, rfl⟩
      rcases hn with hn | hn | hn | hn
      · omega
      · omega
      · omega
      · exact h ⟨hn.2.1, hn.2.2.2.2.1, hn.2.2.2.2.2.1, hn.2.2.2.2.2.2.1, hn.2.2.2.2.2.2.2⟩
  rw [if_neg c5]
  right
  refine ⟨fun n h => ?_, rfl⟩
  unfold Is at h
  omega

theorem take_two (l : List Int) (h : 2 ≤ l.length) : l.take 2 = [rd l 0, rd l 1] := by
  match l, h with
  | a :: b :: _, _ => simp [rd]
theorem take_three (l : List Int) (h : 3 ≤ l.length) : l.take 3 = [rd l 0, rd l 1, rd l 2] := by
  match l, h with
  | a :: b :: c :: _, _ => simp [rd]
theorem take_four (l : List Int) (h : 4 ≤ l.length) : l.take 4 = [rd l 0, rd l 1, rd l 2, rd l 3] := by
  match l, h with
  | a :: b :: c :: d :: _, _ => simp [rd]
theorem take_one (l : List Int) (h : 1 ≤ l.length) : l.take 1 = [rd l 0] := by
  match l, h with
  | a :: _, _ => simp [rd]

/-- The document's test of n bytes at the front. -/
theorem is_iff (l : List Int) (hb : Bytes l) (n : Nat) (h1 : 1 ≤ n) (h4 : n ≤ 4) (hn : n ≤ l.length) :
    (size (colophonref01_value.v l 0 n) = n ∧ form (colophonref01_value.v l 0 n) = l.take n) ↔ Is l n := by
  have b0 := rd_byte hb 0 (by omega)
  have e : ∀ j : Nat, (0 : Int) + (j : Int) = (j : Int) := fun j => by omega
  have hk : n = 1 ∨ n = 2 ∨ n = 3 ∨ n = 4 := by omega
  simp only [Int.natCast_zero] at b0
  rcases hk with rfl | rfl | rfl | rfl
  · rw [take_one l hn]
    simp only [colophonref01_value.v, Is, Int.natCast_one, if_pos]
    constructor
    · rintro ⟨h, _⟩
      have := size_one h
      exact .inl ⟨trivial, hn, by omega⟩
    · intro h
      have h2 : rd l 0 < 128 := by omega
      have h3 : size (rd l 0) = 1 := (size_one_iff _).mpr ⟨b0.1, h2⟩
      exact ⟨h3, by simp [form, h3]⟩
  · have b1 := rd_byte hb 1 (by omega)
    simp only [Int.natCast_one] at b1
    rw [take_two l hn]
    have hv : colophonref01_value.v l 0 (2 : Nat) = (rd l 0 - 192) * 64 + rd l 1 - 128 := rfl
    rw [hv]
    simp only [Is, utf_next.two, cont_iff]
    generalize rd l 0 = x0 at *
    generalize rd l 1 = x1 at *
    constructor
    · rintro ⟨h, hf⟩
      have h' : size ((x0 - 192) * 64 + x1 - 128) = 2 := h
      have hr := size_two h'
      simp only [form, h'] at hf
      simp at hf
      refine .inr (.inl ⟨trivial, hn, by omega, by omega, by omega, ?_⟩)
      rw [show x0 % 32 * 64 + x1 % 64 = (x0 - 192) * 64 + x1 - 128 by omega]
      exact h'
    · intro h
      have h2 : 192 ≤ x0 ∧ x0 < 224 ∧ (128 ≤ x1 ∧ x1 < 192) := by omega
      have h3 : size (x0 % 32 * 64 + x1 % 64) = 2 := by
        rcases h with h | h | h | h
        · omega
        · exact h.2.2.2.2.2
        · omega
        · omega
      rw [show x0 % 32 * 64 + x1 % 64 = (x0 - 192) * 64 + x1 - 128 by omega] at h3
      refine ⟨h3, ?_⟩
      have hr := size_two h3
      simp only [form, h3]
      simp
      omega
  · have b1 := rd_byte hb 1 (by omega)
    have b2 := rd_byte hb 2 (by omega)
    simp only [Int.natCast_one] at b1
    rw [take_three l hn]
    have hv : colophonref01_value.v l 0 (3 : Nat) = ((rd l 0 - 224) * 64 + rd l 1 - 128) * 64 + rd l 2 - 128 := rfl
    rw [hv]
    simp only [Is, utf_next.three, cont_iff]
    have b2' : 0 ≤ rd l 2 ∧ rd l 2 ≤ 255 := b2
    clear b2 hv
    generalize rd l 0 = x0 at *
    generalize rd l 1 = x1 at *
    generalize rd l 2 = x2 at *
    constructor
    · rintro ⟨h, hf⟩
      have h' : size (((x0 - 224) * 64 + x1 - 128) * 64 + x2 - 128) = 3 := h
      have hr := size_three h'
      simp only [form, h'] at hf
      simp at hf
      refine .inr (.inr (.inl ⟨trivial, hn, by omega, by omega, by omega, by omega, ?_⟩))
      rw [show (x0 % 16 * 64 + x1 % 64) * 64 + x2 % 64 = ((x0 - 224) * 64 + x1 - 128) * 64 + x2 - 128 by omega]
      exact h'
    · intro h
      have h2 : 224 ≤ x0 ∧ x0 < 240 ∧ (128 ≤ x1 ∧ x1 < 192) ∧ (128 ≤ x2 ∧ x2 < 192) := by omega
      have h3 : size ((x0 % 16 * 64 + x1 % 64) * 64 + x2 % 64) = 3 := by
        rcases h with h | h | h | h
        · omega
        · omega
        · exact h.2.2.2.2.2.2
        · omega
      rw [show (x0 % 16 * 64 + x1 % 64) * 64 + x2 % 64 = ((x0 - 224) * 64 + x1 - 128) * 64 + x2 - 128 by omega] at h3
      refine ⟨h3, ?_⟩
      have hr := size_three h3
      simp only [form, h3]
      simp
      omega
  · have b1 := rd_byte hb 1 (by omega)
    have b2 := rd_byte hb 2 (by omega)
    have b3 := rd_byte hb 3 (by omega)
    simp only [Int.natCast_one] at b1
    rw [take_four l hn]
    have hv : colophonref01_value.v l 0 (4 : Nat) = (((rd l 0 - 240) * 64 + rd l 1 - 128) * 64 + rd l 2 - 128) * 64 + rd l 3 - 128 := rfl
    rw [hv]
    simp only [Is, utf_next.four, cont_iff]
    have b2' : 0 ≤ rd l 2 ∧ rd l 2 ≤ 255 := b2
    have b3' : 0 ≤ rd l 3 ∧ rd l 3 ≤ 255 := b3
    clear b2 b3 hv
    generalize rd l 0 = x0 at *
    generalize rd l 1 = x1 at *
    generalize rd l 2 = x2 at *
    generalize rd l 3 = x3 at *
    constructor
    · rintro ⟨h, hf⟩
      have h' : size ((((x0 - 240) * 64 + x1 - 128) * 64 + x2 - 128) * 64 + x3 - 128) = 4 := h
      have hr := size_four h'
      simp only [form, h'] at hf
      simp at hf
      refine .inr (.inr (.inr ⟨trivial, hn, by omega, by omega, by omega, by omega, by omega, ?_⟩))
      rw [show ((x0 % 8 * 64 + x1 % 64) * 64 + x2 % 64) * 64 + x3 % 64 = (((x0 - 240) * 64 + x1 - 128) * 64 + x2 - 128) * 64 + x3 - 128 by omega]
      exact h'
    · intro h
      have h2 : 240 ≤ x0 ∧ x0 < 248 ∧ (128 ≤ x1 ∧ x1 < 192) ∧ (128 ≤ x2 ∧ x2 < 192) ∧ (128 ≤ x3 ∧ x3 < 192) := by omega
      have h3 : size (((x0 % 8 * 64 + x1 % 64) * 64 + x2 % 64) * 64 + x3 % 64) = 4 := by
        rcases h with h | h | h | h
        · omega
        · omega
        · omega
        · exact h.2.2.2.2.2.2.2
      rw [show ((x0 % 8 * 64 + x1 % 64) * 64 + x2 % 64) * 64 + x3 % 64 = (((x0 - 240) * 64 + x1 - 128) * 64 + x2 - 128) * 64 + x3 - 128 by omega] at h3
      refine ⟨h3, ?_⟩
      have hr := size_four h3
      simp only [form, h3]
      simp
      omega
theorem is_val (l : List Int) (hb : Bytes l) (n : Nat) (h : Is l n) : colophonref01_value.v l 0 n = val l n := by
  have b0 : 1 ≤ l.length → 0 ≤ rd l 0 ∧ rd l 0 ≤ 255 := fun h => rd_byte hb 0 (by omega)
  have b1 : 2 ≤ l.length → 0 ≤ rd l 1 ∧ rd l 1 ≤ 255 := fun h => rd_byte hb 1 (by omega)
  have b2 : 3 ≤ l.length → 0 ≤ rd l 2 ∧ rd l 2 ≤ 255 := fun h => rd_byte hb 2 (by omega)
  have b3 : 4 ≤ l.length → 0 ≤ rd l 3 ∧ rd l 3 ≤ 255 := fun h => rd_byte hb 3 (by omega)
  unfold Is at h
  simp only [cont_iff] at h
  rcases h with ⟨rfl, h⟩ | ⟨rfl, h⟩ | ⟨rfl, h⟩ | ⟨rfl, h⟩
  · rfl
  · show (rd l 0 - 192) * 64 + rd l 1 - 128 = rd l 0 % 32 * 64 + rd l 1 % 64
    omega
  · show ((rd l 0 - 224) * 64 + rd l 1 - 128) * 64 + rd l 2 - 128 = (rd l 0 % 16 * 64 + rd l 1 % 64) * 64 + rd l 2 % 64
    omega
  · show (((rd l 0 - 240) * 64 + rd l 1 - 128) * 64 + rd l 2 - 128) * 64 + rd l 3 - 128 = ((rd l 0 % 8 * 64 + rd l 1 % 64) * 64 + rd l 2 % 64) * 64 + rd l 3 % 64
    omega
/-- At most one length fits. -/
theorem is_one {l : List Int} {m n : Nat} (h : Is l m) (h' : Is l n) : m = n := by
  unfold Is at h h'
  omega
theorem is_range {l : List Int} {n : Nat} (h : Is l n) : 1 ≤ n ∧ n ≤ 4 ∧ n ≤ l.length := by
  unfold Is at h
  omega

/-! ### strings of bytes -/
theorem str_list (x : List Int) : (strOfNums x).toList = x.map fun n => UInt8.ofNat n.toNat := by
  rw [ByteArray.toList_eq]; simp [strOfNums]
theorem str_eq {x y : List Int} (hx : Bytes x) (hy : Bytes y) : (strOfNums x).toList = (strOfNums y).toList ↔ x = y := by
  rw [str_list, str_list]
  constructor
  · intro h
    induction x generalizing y with
    | nil => simpa using h.symm
    | cons a x ih =>
      cases y with
      | nil => simp at h
      | cons b y =>
        simp only [List.map_cons, List.cons.injEq] at h
        rw [byte_inj (hx a (by simp)) (hy b (by simp)) h.1, ih (fun z hz => hx z (by simp [hz])) (fun z hz => hy z (by simp [hz])) h.2]
  · rintro rfl; rfl
theorem Bytes.drop {l : List Int} (h : Bytes l) (n : Nat) : Bytes (l.drop n) := fun x hx => h x (List.mem_of_mem_drop hx)
theorem Bytes.take {l : List Int} (h : Bytes l) (n : Nat) : Bytes (l.take n) := fun x hx => h x (List.mem_of_mem_take hx)
theorem Bytes.form (r : Int) : Bytes (form r) := form_byte r
theorem rd_drop (l : List Int) (a j : Nat) : rd (l.drop a) (j : Int) = rd l ((a : Int) + (j : Int)) := by
  unfold rd
  rw [show ((a : Int) + (j : Int)).toNat = a + j by omega, Int.toNat_natCast]
  simp [List.getD]

/-! ### the document's reader of a form -/
theorem v_drop (l : List Int) (a : Nat) (n : Int) : colophonref01_value.v l a n = colophonref01_value.v (l.drop a) 0 n := by
  have h0 := rd_drop l a 0
  have h1 := rd_drop l a 1
  have h2 := rd_drop l a 2
  have h3 := rd_drop l a 3
  unfold colophonref01_value.v
  simp only [Int.zero_add]
  have e0 : rd (l.drop a) 0 = rd l a := by simpa using h0
  have e1 : rd (l.drop a) 1 = rd l (a + 1) := by simpa using h1
  have e2 : rd (l.drop a) 2 = rd l (a + 2) := by simpa using h2
  have e3 : rd (l.drop a) 3 = rd l (a + 3) := by simpa using h3
  rw [e0, e1, e2, e3]
theorem v_range {l : List Int} (hb : Bytes l) (n : Nat) (h1 : 1 ≤ n) (h4 : n ≤ 4) (hn : n ≤ l.length) : -2147483648 ≤ colophonref01_value.v l 0 n ∧ colophonref01_value.v l 0 n ≤ 2147483647 := by
  have b0 : 0 ≤ rd l 0 ∧ rd l 0 ≤ 255 := rd_byte hb 0 (by omega)
  have b1 : 2 ≤ l.length → 0 ≤ rd l 1 ∧ rd l 1 ≤ 255 := fun h => rd_byte hb 1 (by omega)
  have b2 : 3 ≤ l.length → 0 ≤ rd l 2 ∧ rd l 2 ≤ 255 := fun h => rd_byte hb 2 (by omega)
  have b3 : 4 ≤ l.length → 0 ≤ rd l 3 ∧ rd l 3 ≤ 255 := fun h => rd_byte hb 3 (by omega)
  have hk : n = 1 ∨ n = 2 ∨ n = 3 ∨ n = 4 := by omega
  rcases hk with rfl | rfl | rfl | rfl
  · show _ ≤ rd l 0 ∧ rd l 0 ≤ _
    omega
  · show _ ≤ (rd l 0 - 192) * 64 + rd l 1 - 128 ∧ (rd l 0 - 192) * 64 + rd l 1 - 128 ≤ _
    omega
  · show _ ≤ ((rd l 0 - 224) * 64 + rd l 1 - 128) * 64 + rd l 2 - 128 ∧ ((rd l 0 - 224) * 64 + rd l 1 - 128) * 64 + rd l 2 - 128 ≤ _
    omega
  · show _ ≤ (((rd l 0 - 240) * 64 + rd l 1 - 128) * 64 + rd l 2 - 128) * 64 + rd l 3 - 128 ∧ (((rd l 0 - 240) * 64 + rd l 1 - 128) * 64 + rd l 2 - 128) * 64 + rd l 3 - 128 ≤ _
    omega
theorem value_some {l : List Int} (hb : Bytes l) (hl : (l.length : Int) ≤ 4611686018427387904) (a n : Nat) (h1 : 1 ≤ n) (h4 : n ≤ 4) (hn : a + n ≤ l.length) :
    colophonref01_value.f l a n = some (colophonref01_value.v (l.drop a) 0 n) := by
  unfold colophonref01_value.f
  rw [if_pos, v_drop]
  refine ⟨by omega, by omega, by omega, by omega, by omega, fun j hj => ?_⟩
  unfold colophonref01_value.bok
  have := rd_byte hb (a + j) (by omega)
  rwa [show ((a + j : Nat) : Int) = (a : Int) + (j : Int) by omega] at this
open Classical in
theorem at_step {l : List Int} (hb : Bytes l) (hl : (l.length : Int) ≤ 4611686018427387904) (a n k : Nat) (h1 : 1 ≤ n) (h4 : n ≤ 4) (hn : a + n ≤ l.length) (hk : 1 ≤ k) :
    colophonref01_At.l0 (k + 2) l a n = if Is (l.drop a) n then some (val (l.drop a) n, (n : Int)) else colophonref01_At.l0 k l a ((n + 1 : Nat) : Int) := by
  have hlen : n ≤ (l.drop a).length := by simp; omega
  have hr := v_range (hb.drop a) n h1 h4 hlen
  have hi := is_iff (l.drop a) (hb.drop a) n h1 h4 hlen
  rw [colophonref01_At.l0, if_pos (by omega), wrap_in (by omega) (by omega), decide_eq_true (by omega)]
  rw [colophonref01_At.j1, if_pos rfl, value_some hb hl a n h1 h4 hn]
  simp only [Option.bind_some]
  rw [ref_Size_some _ _ hk hr.1 hr.2]
  simp only [Option.bind_some]
  rw [wrap_in (x := (n : Int) + 1) (by omega) (by omega), wrap_in (x := (a : Int) + n) (by omega) (by omega)]
  by_cases hs : size (colophonref01_value.v (l.drop a) 0 n) = n
  · rw [if_pos hs, ref_form_some _ _ hk hr.1 hr.2]
    simp only [Option.bind_some]
    rw [if_pos (by omega), if_pos (by omega), if_pos (by omega)]
    have e1 : (l.take (((a : Int) + n) : Int).toNat).drop (a : Int).toNat = (l.drop a).take n := by
      rw [Int.toNat_natCast, show (((a : Int) + n) : Int).toNat = a + n by omega, List.drop_take]
      congr 1
      omega
    rw [e1]
    by_cases hf : form (colophonref01_value.v (l.drop a) 0 n) = (l.drop a).take n
    · rw [if_pos ((str_eq (Bytes.form _) ((hb.drop a).take n)).mpr hf), if_pos (hi.mp ⟨hs, hf⟩), is_val _ (hb.drop a) n (hi.mp ⟨hs, hf⟩)]
    · rw [if_neg (fun h => hf ((str_eq (Bytes.form _) ((hb.drop a).take n)).mp h)), if_neg (fun h => hf (hi.mpr h).2)]
      rfl
  · rw [if_neg hs, if_neg (fun h => hs (hi.mpr h).1)]
    rfl
theorem at_end (l : List Int) (hl : (l.length : Int) ≤ 4611686018427387904) (a n k : Nat) (ha : a ≤ l.length) (h : 4 < n ∨ l.length < a + n) (hn : n ≤ 5) : colophonref01_At.l0 (k + 2) l a n = some (0, 0) := by
  rw [colophonref01_At.l0]
  by_cases h4 : (n : Int) ≤ 4
  · rw [if_pos h4, wrap_in (by omega) (by omega), decide_eq_false (by omega), colophonref01_At.j1, if_neg (by simp)]
  · rw [if_neg h4, colophonref01_At.j1, if_neg (by simp)]
theorem at_some {l : List Int} (hb : Bytes l) (hl : (l.length : Int) ≤ 4611686018427387904) (a k : Nat) (ha : a ≤ l.length) (hk : 12 ≤ k) : colophonref01_At.f k l a = some (nx (l.drop a)) := by
  obtain ⟨m, rfl⟩ : ∃ m, k = m + 2 + 2 + 2 + 2 + 2 := ⟨k - 10, by omega⟩
  unfold colophonref01_At.f
  have hlen : (l.drop a).length = l.length - a := by simp
  have key : ∀ d n k : Nat, n + d = 5 → 1 ≤ n → 2 * d + 2 < k → (∀ j, 1 ≤ j → j < n → ¬ Is (l.drop a) j) → colophonref01_At.l0 k l a n = some (nx (l.drop a)) := by
    intro d
    induction d with
    | zero =>
      intro n k hn h1 hk hno
      obtain ⟨k, rfl⟩ : ∃ m, k = m + 2 := ⟨k - 2, by omega⟩
      rw [at_end l hl a n k ha (.inl (by omega)) (by omega)]
      rcases nx_cases (l.drop a) with ⟨j, hj, he⟩ | ⟨_, he⟩
      · have := is_range hj
        exact absurd hj (hno j (by omega) (by omega))
      · rw [he]
    | succ d ih =>
      intro n k hn h1 hk hno
      obtain ⟨k, rfl⟩ : ∃ m, k = m + 2 := ⟨k - 2, by omega⟩
      by_cases hlt : a + n ≤ l.length
      · rw [at_step hb hl a n k h1 (by omega) hlt (by omega)]
        by_cases hi : Is (l.drop a) n
        · rw [if_pos hi]
          rcases nx_cases (l.drop a) with ⟨j, hj, he⟩ | ⟨hno', _⟩
          · rw [he, is_one hj hi]
          · exact absurd hi (hno' n)
        · rw [if_neg hi]
          refine ih (n + 1) k (by omega) (by omega) (by omega) (fun j h2 h3 => ?_)
          by_cases e : j = n
          · subst e; exact hi
          · exact hno j h2 (by omega)
      · rw [at_end l hl a n k ha (.inr (by omega)) (by omega)]
        rcases nx_cases (l.drop a) with ⟨j, hj, he⟩ | ⟨_, he⟩
        · have := is_range hj
          exact absurd hj (hno j (by omega) (by omega))
        · rw [he]
  exact key 4 1 _ (by omega) (by omega) (by omega) (fun j h1 h2 => by omega)
theorem next_some {l : List Int} (hb : Bytes l) (hl : (l.length : Int) ≤ 4611686018427387904) : utf_next.f l = some (nx l) := by
  unfold utf_next.f
  rw [if_pos]
  exact ⟨by omega, fun j _ h => rd_byte hb j h⟩
theorem nx_range {l : List Int} : 0 ≤ (nx l).2 ∧ ((nx l).2 ≠ 0 → 1 ≤ (nx l).2 ∧ (nx l).2 ≤ 4 ∧ (nx l).2 ≤ l.length) := by
  rcases nx_cases l with ⟨n, hn, he⟩ | ⟨_, he⟩
  · rw [he]
    have := is_range hn
    exact ⟨by simp, fun _ => ⟨by simp; omega, by simp; omega, by simp; omega⟩⟩
  · rw [he]; simp

/-! ### cuts -/
theorem ref_over {l : List Int} (hb : Bytes l) (hl : (l.length : Int) ≤ 4611686018427387904) (n : Int) (best : Int) : ∀ (d a k : Nat), l.length - a ≤ d → a ≤ l.length → n < a → d + 13 ≤ k → colophonref01_Cut.l0 k l n best a = some best := by
  intro d
  induction d with
  | zero =>
    intro a k hd ha hn hk
    obtain ⟨m, rfl⟩ : ∃ m, k = m + 1 := ⟨k - 1, by omega⟩
    rw [colophonref01_Cut.l0, if_neg (by omega)]
  | succ d ih =>
    intro a k hd ha hn hk
    obtain ⟨m, rfl⟩ : ∃ m, k = m + 1 := ⟨k - 1, by omega⟩
    rw [colophonref01_Cut.l0]
    by_cases h : (a : Int) < (l.length : Int)
    · rw [if_pos h, at_some hb hl a m ha (by omega)]
      simp only [Option.bind_some]
      have hr := nx_range (l := l.drop a)
      rw [List.length_drop] at hr
      by_cases hz : (nx (l.drop a)).2 = 0
      · rw [if_pos hz]
      · have hr2 := hr.2 hz
        obtain ⟨j, hj⟩ : ∃ j : Nat, (nx (l.drop a)).2 = j := ⟨_, (Int.toNat_of_nonneg hr.1).symm⟩
        rw [hj] at hr2 hz
        rw [hj, if_neg hz, wrap_in (by omega) (by omega), if_neg (by omega)]
        have := ih (a + j) m (by omega) (by omega) (by omega) (by omega)
        rwa [show ((a + j : Nat) : Int) = (a : Int) + (j : Int) by omega] at this
    · rw [if_neg h]
theorem cut_eq {l : List Int} (hb : Bytes l) (hl : (l.length : Int) ≤ 4611686018427387904) (n : Int) (hn0 : -9223372036854775808 ≤ n) (hn1 : n ≤ 9223372036854775807) : ∀ (d a k1 k2 : Nat), l.length - a ≤ d → a ≤ l.length → ((a : Int) ≤ n ∨ a = 0) → d + 1 ≤ k1 → d + 14 ≤ k2 →
    ∃ r, utf_Cut.l0 k1 l n a = some r ∧ colophonref01_Cut.l0 k2 l n a a = some r := by
  intro d
  induction d with
  | zero =>
    intro a k1 k2 hd ha hn hk1 hk2
    obtain ⟨k1, rfl⟩ : ∃ m, k1 = m + 1 := ⟨k1 - 1, by omega⟩
    obtain ⟨k2, rfl⟩ : ∃ m, k2 = m + 1 := ⟨k2 - 1, by omega⟩
    exact ⟨a, by rw [utf_Cut.l0, if_neg (by omega)], by rw [colophonref01_Cut.l0, if_neg (by omega)]⟩
  | succ d ih =>
    intro a k1 k2 hd ha hn hk1 hk2
    obtain ⟨k1, rfl⟩ : ∃ m, k1 = m + 1 := ⟨k1 - 1, by omega⟩
    obtain ⟨k2, rfl⟩ : ∃ m, k2 = m + 1 := ⟨k2 - 1, by omega⟩
    rw [utf_Cut.l0, colophonref01_Cut.l0]
    by_cases h : (a : Int) < (l.length : Int)
    · rw [if_pos h, if_pos h, if_pos (by omega), if_pos (by omega), at_some hb hl a k2 ha (by omega)]
      rw [Int.toNat_natCast, next_some (hb.drop a) (by rw [List.length_drop]; omega)]
      simp only [Option.bind_some]
      have hr := nx_range (l := l.drop a)
      rw [List.length_drop] at hr
      by_cases hz : (nx (l.drop a)).2 = 0
      · rw [if_pos hz, if_pos hz]
        exact ⟨a, rfl, rfl⟩
      · have hr2 := hr.2 hz
        obtain ⟨j, hj⟩ : ∃ j : Nat, (nx (l.drop a)).2 = j := ⟨_, (Int.toNat_of_nonneg hr.1).symm⟩
        rw [hj] at hr2 hz
        rw [hj, if_neg hz, if_neg hz, wrap_in (x := n - a) (by omega) (by omega), wrap_in (x := (a : Int) + j) (by omega) (by omega)]
        by_cases hc : (j : Int) > n - a
        · rw [if_pos hc, if_neg (by omega)]
          have := ref_over hb hl n a d (a + j) k2 (by omega) (by omega) (by omega) (by omega)
          rw [show ((a + j : Nat) : Int) = (a : Int) + (j : Int) by omega] at this
          exact ⟨a, rfl, this⟩
        · rw [if_neg hc, if_pos (by omega)]
          have := ih (a + j) k1 k2 (by omega) (by omega) (by omega) (by omega) (by omega)
          rwa [show ((a + j : Nat) : Int) = (a : Int) + (j : Int) by omega] at this
    · rw [if_neg h, if_neg h]
      exact ⟨a, rfl, rfl⟩
end Go.Proofs.Ytbdhclhioeeanaa.U
