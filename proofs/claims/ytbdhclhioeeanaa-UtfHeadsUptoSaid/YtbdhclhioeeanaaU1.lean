/- Layer 1 in plain Lean: forms, what is encoded. -/
import Derived.Test.YtbdhclhioeeanaaPUx1
import Derived.Test.YtbdhclhioeeanaaPUx2
import Derived.Test.YtbdhclhioeeanaaPUx3
import Derived.Test.YtbdhclhioeeanaaPUx4
import Derived.Test.YtbdhclhioeeanaaPUx5
namespace Go.Proofs.Ytbdhclhioeeanaa.U
open Go.RowKit Go.Proofs.Ytbdhclhioeeanaa.PU Go.Proofs.YtbdhclhioeeanaaW.PrintWords Go.Proofs.YtbdhclhioeeanaaW.PrintLast

/-! ### small things -/
theorem rd_mid (pre : List Int) (a : Int) (l : List Int) : rd (pre ++ a :: l) (pre.length : Int) = a := by
  simp [rd]
theorem wrap_in {x : Int} (h0 : -9223372036854775808 ≤ x) (h1 : x ≤ 9223372036854775807) : wrap64 x = x := by
  unfold wrap64
  omega
theorem byte_inj {x y : Int} (hx : 0 ≤ x ∧ x ≤ 255) (hy : 0 ≤ y ∧ y ≤ 255) (h : UInt8.ofNat x.toNat = UInt8.ofNat y.toNat) : x = y := by
  have := congrArg UInt8.toNat h
  simp at this
  omega

theorem wf_i32 {x : Int} (h : (Lit.int .i32 x).wf = true) : -2147483648 ≤ x ∧ x ≤ 2147483647 := by
  simp only [Lit.wf, IntKind.min, IntKind.max, IntKind.signed, IntKind.bits, Bool.and_eq_true, decide_eq_true_eq, if_true] at h
  omega
theorem wf_i64 {x : Int} (h : (Lit.int .i64 x).wf = true) : -9223372036854775808 ≤ x ∧ x ≤ 9223372036854775807 := by
  simp only [Lit.wf, IntKind.min, IntKind.max, IntKind.signed, IntKind.bits, Bool.and_eq_true, decide_eq_true_eq, if_true] at h
  omega
theorem wf_u8 {x : Int} (h : (Lit.int .u8 x).wf = true) : 0 ≤ x ∧ x ≤ 255 := by
  simp only [Lit.wf, IntKind.min, IntKind.max, IntKind.signed, IntKind.bits, Bool.and_eq_true, decide_eq_true_eq, Bool.false_eq_true, if_false] at h
  omega

/-! ### sizes and forms -/
abbrev size := utf_next.size
def form (r : Int) : List Int :=
  if size r = 1 then [r]
  else if size r = 2 then [192 + r / 64, 128 + r % 64]
  else if size r = 3 then [224 + r / 4096, 128 + r / 64 % 64, 128 + r % 64]
  else if size r = 4 then [240 + r / 262144, 128 + r / 4096 % 64, 128 + r / 64 % 64, 128 + r % 64]
  else []
theorem size_range (r : Int) : size r = 0 ∨ size r = 1 ∨ size r = 2 ∨ size r = 3 ∨ size r = 4 := by
  unfold size utf_next.size
  repeat' split
  all_goals simp
theorem size_one {r : Int} (h : size r = 1) : 0 ≤ r ∧ r < 128 := by
  unfold size utf_next.size at h
  repeat' split at h
  all_goals omega
theorem size_two {r : Int} (h : size r = 2) : 128 ≤ r ∧ r < 2048 := by
  unfold size utf_next.size at h
  repeat' split at h
  all_goals omega
theorem size_three {r : Int} (h : size r = 3) : 2048 ≤ r ∧ r < 65536 := by
  unfold size utf_next.size at h
  repeat' split at h
  all_goals omega
theorem size_four {r : Int} (h : size r = 4) : 65536 ≤ r ∧ r < 1114112 := by
  unfold size utf_next.size at h
  repeat' split at h
  all_goals omega
theorem form_len (r : Int) : ((form r).length : Int) = size r := by
  unfold form
  rcases size_range r with h | h | h | h | h <;> simp [h]
theorem form_byte (r : Int) : ∀ x ∈ form r, 0 ≤ x ∧ x ≤ 255 := by
  intro x hx
  unfold form at hx
  rcases size_range r with h | h | h | h | h
  · simp [h] at hx
  · have := size_one h
    simp [h] at hx
    omega
  · have := size_two h
    simp [h] at hx
    rcases hx with rfl | rfl <;> omega
  · have := size_three h
    simp [h] at hx
    rcases hx with rfl | rfl | rfl <;> omega
  · have := size_four h
    simp [h] at hx
    rcases hx with rfl | rfl | rfl | rfl <;> omega

theorem utf_Size_some (k : Nat) (r : Int) (hk : 1 ≤ k) : utf_Size.f k r = some (size r) := by
  induction k with
  | zero => omega
  | succ k ih =>
    by_cases h : k = 0
    · subst h; exact utf_next.size_f r
    · exact utf_Size.mono r k _ (ih (by omega))
theorem ref_Size_some (k : Nat) (r : Int) (hk : 1 ≤ k) (h0 : -2147483648 ≤ r) (h1 : r ≤ 2147483647) : colophonref01_Size.f k r = some (size r) := by
  have h := utf_Size_some k r hk
  obtain ⟨m, rfl⟩ : ∃ m, k = m + 1 := ⟨k - 1, by omega⟩
  rw [← h]
  unfold colophonref01_Size.f utf_Size.f
  rw [wrap_in (by omega) (by omega)]
  by_cases c1 : r < 0
  · rw [if_pos c1, if_pos c1, decide_eq_true c1]; rfl
  rw [if_neg c1, if_neg c1]
  by_cases c2 : r > 1114111
  · rw [if_pos c2, if_pos c2, decide_eq_true c2]; rfl
  rw [if_neg c2, if_neg c2]
  by_cases c3 : r ≥ 55296
  · rw [if_pos c3, if_pos c3, show decide (r ≤ 57343) = decide (r < 57344) from by rw [decide_eq_decide]; omega]; rfl
  · rw [if_neg c3, if_neg c3]; rfl
theorem ref_form_some (k : Nat) (r : Int) (hk : 1 ≤ k) (h0 : -2147483648 ≤ r) (h1 : r ≤ 2147483647) : colophonref01_form.f k r = some (form r) := by
  unfold colophonref01_form.f form
  rw [ref_Size_some k r hk h0 h1]
  simp only [Option.bind_some]
  rcases size_range r with h | h | h | h | h
  · simp [h]
  · have := size_one h
    rw [if_pos h, if_pos h, wrap_in (by omega) (by omega)]
    rw [Int.emod_eq_of_lt (by omega) (by omega)]
  · have := size_two h
    simp only [h]
    rw [wrap_in (x := r) (by omega) (by omega), Int.tdiv_eq_ediv_of_nonneg (by omega), Int.tmod_eq_emod_of_nonneg (by omega)]
    rw [wrap_in (x := r / 64) (by omega) (by omega), wrap_in (x := 192 + r / 64) (by omega) (by omega), wrap_in (x := 128 + r % 64) (by omega) (by omega)]
    simp
    omega
  · have := size_three h
    simp only [h]
    rw [wrap_in (x := r) (by omega) (by omega), Int.tdiv_eq_ediv_of_nonneg (by omega), Int.tdiv_eq_ediv_of_nonneg (by omega), Int.tmod_eq_emod_of_nonneg (a := r) (by omega)]
    rw [wrap_in (x := r / 64) (by omega) (by omega), wrap_in (x := r / 4096) (by omega) (by omega), Int.tmod_eq_emod_of_nonneg (by omega)]
    rw [wrap_in (x := 224 + r / 4096) (by omega) (by omega), wrap_in (x := 128 + r % 64) (by omega) (by omega), wrap_in (x := 128 + r / 64 % 64) (by omega) (by omega)]
    simp
    omega
  · have := size_four h
    simp only [h]
    rw [wrap_in (x := r) (by omega) (by omega), Int.tdiv_eq_ediv_of_nonneg (a := r) (b := 64) (by omega), Int.tdiv_eq_ediv_of_nonneg (a := r) (b := 4096) (by omega), Int.tdiv_eq_ediv_of_nonneg (a := r) (b := 262144) (by omega), Int.tmod_eq_emod_of_nonneg (a := r) (by omega)]
    rw [wrap_in (x := r / 64) (by omega) (by omega), wrap_in (x := r / 4096) (by omega) (by omega), wrap_in (x := r / 262144) (by omega) (by omega), Int.tmod_eq_emod_of_nonneg (a := r / 64) (by omega), Int.tmod_eq_emod_of_nonneg (a := r / 4096) (by omega)]
    rw [wrap_in (x := 240 + r / 262144) (by omega) (by omega), wrap_in (x := 128 + r % 64) (by omega) (by omega), wrap_in (x := 128 + r / 64 % 64) (by omega) (by omega), wrap_in (x := 128 + r / 4096 % 64) (by omega) (by omega)]
    simp
    omega

/-! ### what is encoded -/
/-- The bytes of numbers behind acc; the first is number i. -/
def encR : List Int → List Int → Nat → List Int × Int × Int
  | [], acc, _ => (acc, 0, 0)
  | r :: l, acc, i => if size r = 0 then ([], (i : Int), 11) else encR l (acc ++ form r) (i + 1)

theorem len_step {pre l : List Int} {a : Int} : ((pre ++ a :: l).length : Int) = pre.length + (l.length + 1) := by simp

theorem l1_neg (k : Nat) (acc w : List Int) (r n i : Int) : utf_Encode.l1 (k + 1) acc r (-1) w n i = utf_Encode.l0 k acc w n (wrap64 (i + 1)) := by
  simp only [utf_Encode.l1]; rw [if_neg (by omega)]
theorem l1_at (k : Nat) (acc w : List Int) (r n i : Int) (c : Nat) (hc : c ≤ 2) (ha : acc.length < 140737488355328) (v : Int) (hv : 128 + r / 2 ^ (6 * c) % 64 = v) :
    utf_Encode.l1 (k + 1) acc r (c : Int) w n i = utf_Encode.l1 k (acc ++ [v]) r (c - 1) w n i := by
  simp only [utf_Encode.l1]
  rw [if_pos (by omega), wrap_in (x := 6 * (c : Int)) (by omega) (by omega), if_pos (by omega), if_pos ha, wrap_in (x := (c : Int) - 1) (by omega) (by omega)]
  have e : shr .i32 r (6 * (c : Int)) = r / 2 ^ (6 * c) := by
    unfold shr
    have h1 : min (6 * (c : Int)).toNat IntKind.i32.bits = 6 * c := by
      have : IntKind.i32.bits = 32 := rfl
      rw [this]; omega
    rw [h1]
  rw [e, hv]

theorem enc_l0 (whole : List Int) (hw : (whole.length : Int) ≤ 4611686018427387904) : ∀ (l pre acc : List Int) (k : Nat), whole = pre ++ l → 6 * l.length + 2 ≤ k → acc.length + 4 * l.length < 140737488355328 →
    utf_Encode.l0 k acc whole (whole.length : Int) (pre.length : Int) = some (encR l acc pre.length) := by
  intro l
  induction l with
  | nil =>
    intro pre acc k he hk ha
    obtain ⟨m, rfl⟩ : ∃ m, k = m + 1 := ⟨k - 1, by omega⟩
    simp only [utf_Encode.l0, encR]
    rw [if_neg (by rw [he]; simp)]
  | cons r l ih =>
    intro pre acc k he hk ha
    simp only [List.length_cons] at hk ha
    obtain ⟨m, rfl⟩ : ∃ m, k = m + 6 := ⟨k - 6, by omega⟩
    have hlen : (whole.length : Int) = pre.length + (l.length + 1) := by rw [he]; exact len_step
    have hrd : rd whole (pre.length : Int) = r := by rw [he]; exact rd_mid pre r l
    have hnext : ∀ (acc' : List Int) (k' : Nat), 6 * l.length + 2 ≤ k' → acc'.length + 4 * l.length < 140737488355328 → utf_Encode.l0 k' acc' whole (whole.length : Int) (wrap64 ((pre.length : Int) + 1)) = some (encR l acc' (pre.length + 1)) := by
      intro acc' k' h1 h2
      have := ih (pre ++ [r]) acc' k' (by rw [he]; simp) h1 h2
      rw [wrap_in (by omega) (by omega)]
      simpa using this
    rw [utf_Encode.l0, if_pos (by omega), if_pos (by omega), if_pos (by omega), hrd, utf_Size_some _ _ (by omega)]
    simp only [Option.bind_some, encR]
    have hf := form_len r
    rcases size_range r with h | h | h | h | h
    · rw [if_pos h, if_pos h]
    · have hr := size_one h
      have n0 : ¬ size r = 0 := by omega
      rw [if_neg n0, if_neg n0, if_pos h, if_pos (by omega), hnext _ _ (by omega) (by simp; omega)]
      have : form r = [r % 256] := by simp [form, h]; omega
      rw [this]
    · have hr := size_two h
      have n0 : ¬ size r = 0 := by omega
      have n1 : ¬ size r = 1 := by omega
      rw [if_neg n0, if_neg n0, if_neg n1, if_pos h, if_pos (by omega), u8_or192 _ (by omega) (by omega)]
      simp only [utf_Encode.j1, h]
      rw [wrap_in (by omega) (by omega)]
      rw [show ((2 : Int) - 2) = ((0 : Nat) : Int) by rfl, l1_at _ _ _ _ _ _ 0 (by omega) (by simp; omega) (128 + r % 64) (by simp)]
      rw [show (((0 : Nat) : Int) - 1) = -1 by rfl, l1_neg, hnext _ _ (by omega) (by simp; omega)]
      have : form r = [192 + r / 64 % 256, 128 + r % 64] := by simp [form, h]; omega
      rw [this]; simp
    · have hr := size_three h
      have n0 : ¬ size r = 0 := by omega
      have n1 : ¬ size r = 1 := by omega
      have n2 : ¬ size r = 2 := by omega
      rw [if_neg n0, if_neg n0, if_neg n1, if_neg n2, if_pos h, if_pos (by omega), u8_or224 _ (by omega) (by omega)]
      simp only [utf_Encode.j1, h]
      rw [wrap_in (by omega) (by omega)]
      rw [show ((3 : Int) - 2) = ((1 : Nat) : Int) by rfl, l1_at _ _ _ _ _ _ 1 (by omega) (by simp; omega) (128 + r / 64 % 64) (by simp)]
      rw [show (((1 : Nat) : Int) - 1) = ((0 : Nat) : Int) by rfl, l1_at _ _ _ _ _ _ 0 (by omega) (by simp; omega) (128 + r % 64) (by simp)]
      rw [show (((0 : Nat) : Int) - 1) = -1 by rfl, l1_neg, hnext _ _ (by omega) (by simp; omega)]
      have : form r = [224 + r / 4096 % 256, 128 + r / 64 % 64, 128 + r % 64] := by simp [form, h]; omega
      rw [this]; simp
    · have hr := size_four h
      have n0 : ¬ size r = 0 := by omega
      have n1 : ¬ size r = 1 := by omega
      have n2 : ¬ size r = 2 := by omega
      have n3 : ¬ size r = 3 := by omega
      rw [if_neg n0, if_neg n0, if_neg n1, if_neg n2, if_neg n3, if_pos h, if_pos (by omega), u8_or240 _ (by omega) (by omega)]
      simp only [utf_Encode.j1, h]
      rw [wrap_in (by omega) (by omega)]
      rw [show ((4 : Int) - 2) = ((2 : Nat) : Int) by rfl, l1_at _ _ _ _ _ _ 2 (by omega) (by simp; omega) (128 + r / 4096 % 64) (by simp)]
      rw [show (((2 : Nat) : Int) - 1) = ((1 : Nat) : Int) by rfl, l1_at _ _ _ _ _ _ 1 (by omega) (by simp; omega) (128 + r / 64 % 64) (by simp)]
      rw [show (((1 : Nat) : Int) - 1) = ((0 : Nat) : Int) by rfl, l1_at _ _ _ _ _ _ 0 (by omega) (by simp; omega) (128 + r % 64) (by simp)]
      rw [show (((0 : Nat) : Int) - 1) = -1 by rfl, l1_neg, hnext _ _ (by omega) (by simp; omega)]
      have : form r = [240 + r / 262144 % 256, 128 + r / 4096 % 64, 128 + r / 64 % 64, 128 + r % 64] := by simp [form, h]; omega
      rw [this]; simp

theorem utf_Encode_some (l : List Int) (k : Nat) (hl : 4 * l.length < 140737488355328) (hk : 6 * l.length + 2 ≤ k) : utf_Encode.f k l = some (encR l [] 0) := by
  unfold utf_Encode.f
  rw [if_pos (by omega), if_pos (by omega)]
  have := enc_l0 l (by omega) l [] [] k rfl hk (by simpa using hl)
  simpa using this

theorem ref_enc_l0 (whole : List Int) (hw : (whole.length : Int) ≤ 4611686018427387904) (hb : ∀ r ∈ whole, -2147483648 ≤ r ∧ r ≤ 2147483647) : ∀ (l pre acc : List Int) (k : Nat), whole = pre ++ l → l.length + 2 ≤ k → acc.length + 4 * l.length < 140737488355328 →
    colophonref01_Encode.l0 k whole acc (pre.length : Int) = some (encR l acc pre.length) := by
  intro l
  induction l with
  | nil =>
    intro pre acc k he hk ha
    obtain ⟨m, rfl⟩ : ∃ m, k = m + 1 := ⟨k - 1, by omega⟩
    simp only [colophonref01_Encode.l0, encR]
    rw [if_neg (by rw [he]; simp)]
  | cons r l ih =>
    intro pre acc k he hk ha
    simp only [List.length_cons] at hk ha
    obtain ⟨m, rfl⟩ : ∃ m, k = m + 1 := ⟨k - 1, by omega⟩
    have hlen : (whole.length : Int) = pre.length + (l.length + 1) := by rw [he]; exact len_step
    have hrd : rd whole (pre.length : Int) = r := by rw [he]; exact rd_mid pre r l
    have hr := hb r (by rw [he]; simp)
    have hf := form_len r
    rw [colophonref01_Encode.l0, if_pos (by omega), if_pos (by omega), hrd, ref_Size_some _ _ (by omega) hr.1 hr.2]
    simp only [Option.bind_some, encR]
    by_cases h : size r = 0
    · rw [if_pos h, if_pos h]
    · rw [if_neg h, if_neg h, ref_form_some _ _ (by omega) hr.1 hr.2]
      have := size_range r
      simp only [Option.bind_some]
      rw [if_pos (by omega), wrap_in (by omega) (by omega)]
      have := ih (pre ++ [r]) (acc ++ form r) m (by rw [he]; simp) (by omega) (by simp; omega)
      simpa using this
theorem ref_Encode_some (l : List Int) (k : Nat) (hl : 4 * l.length < 140737488355328) (hb : ∀ r ∈ l, -2147483648 ≤ r ∧ r ≤ 2147483647) (hk : l.length + 2 ≤ k) : colophonref01_Encode.f k l = some (encR l [] 0) := by
  unfold colophonref01_Encode.f
  have := ref_enc_l0 l (by omega) hb l [] [] k rfl hk (by simpa using hl)
  simpa using this

/-! ### alike -/
theorem same_l0 (a b : List Int) (ha : (a.length : Int) ≤ 4611686018427387904) (hab : a.length = b.length) : ∀ (d i k : Nat), i + d = a.length → d + 1 ≤ k → colophonref01_Same.l0 k a b (i : Int) = some (decide (a.drop i = b.drop i)) := by
  intro d
  induction d with
  | zero =>
    intro i k hi hk
    obtain ⟨m, rfl⟩ : ∃ m, k = m + 1 := ⟨k - 1, by omega⟩
    rw [colophonref01_Same.l0, if_neg (by omega)]
    rw [List.drop_eq_nil_of_le (by omega), List.drop_eq_nil_of_le (by omega)]
    simp
  | succ d ih =>
    intro i k hi hk
    obtain ⟨m, rfl⟩ : ∃ m, k = m + 1 := ⟨k - 1, by omega⟩
    rw [colophonref01_Same.l0, if_pos (by omega), if_pos (by omega), if_pos (by omega)]
    have e1 : a.drop i = rd a i :: a.drop (i + 1) := by
      rw [List.drop_eq_getElem_cons (by omega)]; simp [rd, List.getD, List.getElem?_eq_getElem (show i < a.length by omega)]
    have e2 : b.drop i = rd b i :: b.drop (i + 1) := by
      rw [List.drop_eq_getElem_cons (by omega)]; simp [rd, List.getD, List.getElem?_eq_getElem (show i < b.length by omega)]
    by_cases h : rd a (i : Int) = rd b (i : Int)
    · rw [if_pos h, wrap_in (by omega) (by omega)]
      have := ih (i + 1) m (by omega) (by omega)
      rw [show ((i : Int) + 1) = ((i + 1 : Nat) : Int) by omega, this, e1, e2, h]
      simp
    · rw [if_neg h, e1, e2]
      simp [h]
theorem same_some (a b : List Int) (k : Nat) (ha : (a.length : Int) ≤ 4611686018427387904) (hk : a.length + 1 ≤ k) : colophonref01_Same.f k a b = some (decide (a = b)) := by
  unfold colophonref01_Same.f
  by_cases h : (a.length : Int) = (b.length : Int)
  · rw [if_pos h]
    have := same_l0 a b ha (by omega) a.length 0 k (by omega) hk
    simpa using this
  · rw [if_neg h]
    have : ¬ a = b := fun e => h (by rw [e])
    simp [this]
end Go.Proofs.Ytbdhclhioeeanaa.U
