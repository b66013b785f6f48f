/- Layer 1 in plain Lean: decoding; forms one behind the other; the chapter's examples. -/
import Derived.Test.YtbdhclhioeeanaaPUx8
import Derived.Test.YtbdhclhioeeanaaPUx9
import Derived.Test.YtbdhclhioeeanaaU2
namespace Go.Proofs.Ytbdhclhioeeanaa.U
open Go.RowKit Go.Proofs.Ytbdhclhioeeanaa.PU Go.Proofs.YtbdhclhioeeanaaW.PrintWords Go.Proofs.YtbdhclhioeeanaaW.PrintLast

/-- The numbers of bytes behind acc; the first byte is number i; d: so many forms at the most. -/
def decR : Nat → List Int → List Int → Nat → List Int × Int × Int
  | 0, _, acc, _ => (acc, 0, 0)
  | d + 1, l, acc, i => if l = [] then (acc, 0, 0) else if (nx l).2 = 0 then ([], (i : Int), 10) else decR d (l.drop (nx l).2.toNat) (acc ++ [(nx l).1]) (i + (nx l).2.toNat)

theorem drop_nil_iff {l : List Int} {a : Nat} (h : a < l.length) : ¬ l.drop a = [] := by
  intro e
  have := congrArg List.length e
  simp at this
  omega
theorem dec_l0 {l : List Int} (hb : Bytes l) (hl : (l.length : Int) ≤ 4611686018427387904) : ∀ (d a : Nat) (acc : List Int) (k : Nat), l.length - a ≤ d → a ≤ l.length → d + 1 ≤ k → acc.length + d < 35184372088832 →
    utf_Decode.l0 k l acc a = some (decR d (l.drop a) acc a) := by
  intro d
  induction d with
  | zero =>
    intro a acc k hd ha hk hm
    obtain ⟨k, rfl⟩ : ∃ m, k = m + 1 := ⟨k - 1, by omega⟩
    rw [utf_Decode.l0, if_neg (by omega)]; rfl
  | succ d ih =>
    intro a acc k hd ha hk hm
    obtain ⟨k, rfl⟩ : ∃ m, k = m + 1 := ⟨k - 1, by omega⟩
    rw [utf_Decode.l0, decR]
    by_cases h : (a : Int) < (l.length : Int)
    · rw [if_pos h, if_pos (by omega), if_pos (by omega), Int.toNat_natCast, next_some (hb.drop a) (by rw [List.length_drop]; omega), if_neg (drop_nil_iff (by omega))]
      simp only [Option.bind_some]
      have hr := nx_range (l := l.drop a)
      rw [List.length_drop] at hr
      by_cases hz : (nx (l.drop a)).2 = 0
      · rw [if_pos hz, if_pos hz]
      · have hr2 := hr.2 hz
        rw [if_neg hz, if_neg hz, if_pos (by omega), wrap_in (by omega) (by omega)]
        have := ih (a + (nx (l.drop a)).2.toNat) (acc ++ [(nx (l.drop a)).1]) k (by omega) (by omega) (by omega) (by simp; omega)
        rw [show ((a + (nx (l.drop a)).2.toNat : Nat) : Int) = (a : Int) + (nx (l.drop a)).2 by omega] at this
        rw [this, List.drop_drop]
    · rw [if_neg h, if_pos (List.drop_eq_nil_of_le (by omega))]
theorem ref_dec_l0 {l : List Int} (hb : Bytes l) (hl : (l.length : Int) ≤ 4611686018427387904) : ∀ (d a : Nat) (acc : List Int) (k : Nat), l.length - a ≤ d → a ≤ l.length → d + 14 ≤ k → acc.length + d < 35184372088832 →
    colophonref01_Decode.l0 k l acc a = some (decR d (l.drop a) acc a) := by
  intro d
  induction d with
  | zero =>
    intro a acc k hd ha hk hm
    obtain ⟨k, rfl⟩ : ∃ m, k = m + 1 := ⟨k - 1, by omega⟩
    rw [colophonref01_Decode.l0, if_neg (by omega)]; rfl
  | succ d ih =>
    intro a acc k hd ha hk hm
    obtain ⟨k, rfl⟩ : ∃ m, k = m + 1 := ⟨k - 1, by omega⟩
    rw [colophonref01_Decode.l0, decR]
    by_cases h : (a : Int) < (l.length : Int)
    · rw [if_pos h, at_some hb hl a k ha (by omega), if_neg (drop_nil_iff (by omega))]
      simp only [Option.bind_some]
      have hr := nx_range (l := l.drop a)
      rw [List.length_drop] at hr
      by_cases hz : (nx (l.drop a)).2 = 0
      · rw [if_pos hz, if_pos hz]
      · have hr2 := hr.2 hz
        rw [if_neg hz, if_neg hz, if_pos (by omega), wrap_in (by omega) (by omega)]
        have := ih (a + (nx (l.drop a)).2.toNat) (acc ++ [(nx (l.drop a)).1]) k (by omega) (by omega) (by omega) (by simp; omega)
        rw [show ((a + (nx (l.drop a)).2.toNat : Nat) : Int) = (a : Int) + (nx (l.drop a)).2 by omega] at this
        rw [this, List.drop_drop]
    · rw [if_neg h, if_pos (List.drop_eq_nil_of_le (by omega))]
/-- What bytes are decoded to. -/
def dec (l : List Int) : List Int × Int × Int := decR l.length l [] 0
theorem utf_Decode_some {l : List Int} (hb : Bytes l) (hl : l.length < 35184372088832) (k : Nat) (hk : l.length + 1 ≤ k) : utf_Decode.f k l = some (dec l) := by
  have := dec_l0 hb (by omega) l.length 0 [] k (by omega) (by omega) hk (by simpa using hl)
  simpa [utf_Decode.f, dec] using this
theorem ref_Decode_some {l : List Int} (hb : Bytes l) (hl : l.length < 35184372088832) (k : Nat) (hk : l.length + 14 ≤ k) : colophonref01_Decode.f k l = some (dec l) := by
  have := ref_dec_l0 hb (by omega) l.length 0 [] k (by omega) (by omega) hk (by simpa using hl)
  simpa [colophonref01_Decode.f, dec] using this
theorem utf_Count_some {l : List Int} (hb : Bytes l) (hl : l.length < 35184372088832) (k : Nat) (hk : l.length + 1 ≤ k) : utf_Count.f k l = some (((dec l).1.length : Int), (dec l).2.2) := by
  unfold utf_Count.f
  rw [utf_Decode_some hb hl k hk]; rfl

/-! ### forms one behind the other -/
def Gd (l : List Int) : Prop := ∀ r ∈ l, size r ≠ 0
def forms (l : List Int) : List Int := l.flatMap form
theorem forms_cons (r : Int) (l : List Int) : forms (r :: l) = form r ++ forms l := by simp [forms]
theorem forms_byte (l : List Int) : Bytes (forms l) := by
  intro x hx
  simp only [forms, List.mem_flatMap] at hx
  obtain ⟨r, _, hr⟩ := hx
  exact form_byte r x hr
theorem forms_len (l : List Int) : (forms l).length ≤ 4 * l.length := by
  induction l with
  | nil => simp [forms]
  | cons r l ih =>
    rw [forms_cons]
    have h1 := form_len r
    have h2 := size_range r
    simp only [List.length_append, List.length_cons]
    omega
theorem forms_append (a b : List Int) : forms (a ++ b) = forms a ++ forms b := by simp [forms]

theorem enc_good : ∀ (l acc : List Int) (i : Nat), Gd l → encR l acc i = (acc ++ forms l, 0, 0) := by
  intro l
  induction l with
  | nil => intro acc i _; simp [encR, forms]
  | cons r l ih =>
    intro acc i h
    rw [encR, if_neg (h r (by simp)), ih _ _ (fun x hx => h x (by simp [hx])), forms_cons]
    simp
/-- One that isn't good: where. -/
theorem enc_bad : ∀ (l acc : List Int) (i : Nat), ¬ Gd l → ∃ j : Nat, j < l.length ∧ (∀ m : Nat, m < j → size (rd l m) ≠ 0) ∧ size (rd l j) = 0 ∧ encR l acc i = ([], ((i + j : Nat) : Int), 11) := by
  intro l
  induction l with
  | nil => intro acc i h; exact absurd (fun r hr => by simp at hr) h
  | cons r l ih =>
    intro acc i h
    rw [encR]
    by_cases hr : size r = 0
    · rw [if_pos hr]
      exact ⟨0, by simp, fun m hm => by omega, by simpa [rd] using hr, by simp⟩
    · rw [if_neg hr]
      have hl : ¬ Gd l := fun hg => h (fun x hx => by
        rcases List.mem_cons.mp hx with rfl | hx
        · exact hr
        · exact hg x hx)
      obtain ⟨j, h1, h2, h3, h4⟩ := ih (acc ++ form r) (i + 1) hl
      refine ⟨j + 1, by simp; omega, fun m hm => ?_, ?_, ?_⟩
      · cases m with
        | zero => simpa [rd] using hr
        | succ m => have := h2 m (by omega); simpa [rd, Int.toNat] using this
      · simpa [rd, Int.toNat] using h3
      · rw [h4]
        simp only [Prod.mk.injEq, true_and, and_true]
        omega
theorem enc_code (l : List Int) : (encR l [] 0).2.2 = 0 ↔ Gd l := by
  constructor
  · intro h
    apply Classical.byContradiction
    intro hg
    obtain ⟨j, _, _, _, h4⟩ := enc_bad l [] 0 hg
    rw [h4] at h
    simp at h
  · intro h
    rw [enc_good l [] 0 h]

theorem nx_form (r : Int) (hr : size r ≠ 0) (rest : List Int) (hb : Bytes rest) : nx (form r ++ rest) = (r, size r) := by
  have hB : Bytes (form r ++ rest) := fun x hx => by
    rcases List.mem_append.mp hx with h | h
    · exact form_byte r x h
    · exact hb x h
  have hl := form_len r
  have h0 := size_range r
  obtain ⟨n, hn⟩ : ∃ n : Nat, size r = n := ⟨(size r).toNat, by omega⟩
  have hlen : (form r).length = n := by omega
  have hv : colophonref01_value.v (form r ++ rest) 0 n = r := by
    rcases h0 with h | h | h | h | h
    · exact absurd h hr
    · obtain rfl : n = 1 := by omega
      have e : form r = [r] := by simp [form, h]
      rw [e]; simp [colophonref01_value.v, rd]
    · obtain rfl : n = 2 := by omega
      have e : form r = [192 + r / 64, 128 + r % 64] := by simp [form, h]
      rw [e]
      show (rd _ 0 - 192) * 64 + rd _ 1 - 128 = r
      simp [rd]; omega
    · obtain rfl : n = 3 := by omega
      have e : form r = [224 + r / 4096, 128 + r / 64 % 64, 128 + r % 64] := by simp [form, h]
      rw [e]
      show ((rd _ 0 - 224) * 64 + rd _ 1 - 128) * 64 + rd _ 2 - 128 = r
      simp [rd]; omega
    · obtain rfl : n = 4 := by omega
      have e : form r = [240 + r / 262144, 128 + r / 4096 % 64, 128 + r / 64 % 64, 128 + r % 64] := by simp [form, h]
      rw [e]
      show (((rd _ 0 - 240) * 64 + rd _ 1 - 128) * 64 + rd _ 2 - 128) * 64 + rd _ 3 - 128 = r
      simp [rd]; omega
  have hi : Is (form r ++ rest) n := by
    rw [← is_iff _ hB n (by omega) (by omega) (by simp; omega), hv]
    exact ⟨hn, by rw [List.take_left' hlen]⟩
  rcases nx_cases (form r ++ rest) with ⟨m, hm, he⟩ | ⟨hno, _⟩
  · obtain rfl := is_one hm hi
    rw [he, ← is_val _ hB m hm, hv, hn]
  · exact absurd hi (hno n)
theorem nx_back {l : List Int} (hb : Bytes l) (h : (nx l).2 ≠ 0) : size (nx l).1 = (nx l).2 ∧ form (nx l).1 = l.take (nx l).2.toNat := by
  rcases nx_cases l with ⟨n, hn, he⟩ | ⟨_, he⟩
  · rw [he]
    have hr := is_range hn
    have := (is_iff l hb n (by omega) (by omega) (by omega)).mpr hn
    rw [is_val l hb n hn] at this
    simpa using this
  · rw [he] at h; simp at h

theorem form_ne {r : Int} (hr : size r ≠ 0) (x : List Int) : ¬ form r ++ x = [] := by
  intro h
  have h1 := form_len r
  have := congrArg List.length h
  simp at this
  have h2 := size_range r
  have h3 := this.1
  rw [h3] at h1
  simp at h1
  omega
theorem dec_forms : ∀ (l : List Int) (d : Nat) (acc : List Int) (i : Nat), Gd l → l.length ≤ d → decR d (forms l) acc i = (acc ++ l, 0, 0) := by
  intro l
  induction l with
  | nil =>
    intro d acc i _ _
    cases d with
    | zero => simp [decR]
    | succ d => simp [decR, forms]
  | cons r l ih =>
    intro d acc i h hd
    obtain ⟨d, rfl⟩ : ∃ m, d = m + 1 := ⟨d - 1, by simp at hd; omega⟩
    have hr : size r ≠ 0 := h r (by simp)
    have hl := form_len r
    have h0 := size_range r
    rw [forms_cons, decR, if_neg (form_ne hr _), nx_form r hr _ (forms_byte l)]
    simp only
    rw [if_neg hr, List.drop_left' (by omega), ih d _ _ (fun x hx => h x (by simp [hx])) (by simp at hd; omega)]
    simp
theorem forms_ge {l : List Int} (h : Gd l) : l.length ≤ (forms l).length := by
  induction l with
  | nil => simp
  | cons r l ih =>
    have hr : size r ≠ 0 := h r (by simp)
    have h1 := form_len r
    have h2 := size_range r
    have h3 := ih (fun x hx => h x (by simp [hx]))
    rw [forms_cons]
    simp only [List.length_append, List.length_cons]
    omega
theorem dec_enc {l : List Int} (h : Gd l) : dec (forms l) = (l, 0, 0) := by
  unfold dec
  rw [dec_forms l _ [] 0 h (forms_ge h)]
  simp
/-- What is read is good, and is written so; or the bytes are no text. -/
theorem dec_cases : ∀ (d : Nat) (l acc : List Int) (i : Nat), Bytes l → l.length ≤ d → (∃ m, Gd m ∧ forms m = l ∧ decR d l acc i = (acc ++ m, 0, 0)) ∨ (∃ j : Nat, j < l.length ∧ decR d l acc i = ([], ((i + j : Nat) : Int), 10)) := by
  intro d
  induction d with
  | zero =>
    intro l acc i hb hl
    obtain rfl : l = [] := List.length_eq_zero_iff.mp (by omega)
    exact .inl ⟨[], fun r hr => by simp at hr, rfl, by simp [decR]⟩
  | succ d ih =>
    intro l acc i hb hl
    rw [decR]
    by_cases he : l = []
    · subst he
      exact .inl ⟨[], fun r hr => by simp at hr, rfl, by simp⟩
    · rw [if_neg he]
      have hpos : 0 < l.length := by
        cases l with
        | nil => exact absurd rfl he
        | cons _ _ => simp
      have hr := nx_range (l := l)
      by_cases hz : (nx l).2 = 0
      · rw [if_pos hz]
        exact .inr ⟨0, hpos, by simp⟩
      · rw [if_neg hz]
        have hr2 := hr.2 hz
        have hk := nx_back hb hz
        rcases ih (l.drop (nx l).2.toNat) (acc ++ [(nx l).1]) (i + (nx l).2.toNat) (hb.drop _) (by simp; omega) with ⟨m, h1, h2, h3⟩ | ⟨j, h1, h2⟩
        · left
          refine ⟨(nx l).1 :: m, ?_, ?_, ?_⟩
          · intro r hr
            rcases List.mem_cons.mp hr with rfl | hr
            · omega
            · exact h1 r hr
          · rw [forms_cons, hk.2, h2, List.take_append_drop]
          · rw [h3]; simp
        · right
          simp only [List.length_drop] at h1
          refine ⟨(nx l).2.toNat + j, by omega, ?_⟩
          rw [h2]
          simp only [Prod.mk.injEq, true_and, and_true]
          omega
theorem dec_split {l : List Int} (hb : Bytes l) : (∃ m, Gd m ∧ forms m = l ∧ dec l = (m, 0, 0)) ∨ (∃ j : Nat, j < l.length ∧ dec l = ([], (j : Int), 10)) := by
  rcases dec_cases l.length l [] 0 hb (Nat.le_refl _) with ⟨m, h1, h2, h3⟩ | ⟨j, h1, h2⟩
  · exact .inl ⟨m, h1, h2, by rw [dec, h3]; simp⟩
  · exact .inr ⟨j, h1, by rw [dec, h2]; simp⟩

/-! ### the chapter's examples -/
theorem works_some (k : Nat) (hk : 40 ≤ k) : colophonlaw01_works.f k = some true := by
  unfold colophonlaw01_works.f
  rw [utf_Encode_some _ k (by simp) (by simp; omega), utf_Decode_some (by intro x hx; simp at hx; omega) (by simp) k (by simp; omega)]
  have e1 : encR [97, 1488, 8238, 128512] [] 0 = ([97, 215, 144, 226, 128, 174, 240, 159, 152, 128], 0, 0) := by decide +kernel
  have e2 : dec [97, 215, 144] = ([97, 1488], 0, 0) := by decide +kernel
  rw [e1, e2]
  simp only [Option.bind_some]
  rw [str_list]
  simp [rd]
end Go.Proofs.Ytbdhclhioeeanaa.U
