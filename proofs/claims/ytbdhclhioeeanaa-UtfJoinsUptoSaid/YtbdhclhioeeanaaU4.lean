/- Layer 1 in plain Lean: order; heads; cuts. -/
import Derived.Test.YtbdhclhioeeanaaPUx11
import Derived.Test.YtbdhclhioeeanaaPUx12
import Derived.Test.YtbdhclhioeeanaaPUx13
import Derived.Test.YtbdhclhioeeanaaPUx6
import Derived.Test.YtbdhclhioeeanaaU3
namespace Go.Proofs.Ytbdhclhioeeanaa.U
open Go.RowKit Go.Proofs.Ytbdhclhioeeanaa.PU Go.Proofs.YtbdhclhioeeanaaW.PrintWords Go.Proofs.YtbdhclhioeeanaaW.PrintLast

/-! ### order -/
/-- Is one list of numbers less than another: the first that differ, or the shorter one. -/
def less : List Int → List Int → Bool
  | [], [] => false
  | [], _ :: _ => true
  | _ :: _, [] => false
  | a :: l, b :: m => if a = b then less l m else decide (a < b)
def u8s (l : List Int) : List UInt8 := l.map fun n => UInt8.ofNat n.toNat
theorem u8_lt {a b : Int} (ha : 0 ≤ a ∧ a ≤ 255) (hb : 0 ≤ b ∧ b ≤ 255) : (UInt8.ofNat a.toNat < UInt8.ofNat b.toNat) ↔ a < b := by
  rw [UInt8.lt_iff_toNat_lt]
  simp
  omega
theorem bytesLess_eq : ∀ (x y : List Int), Bytes x → Bytes y → Op.bytesLess (u8s x) (u8s y) = less x y := by
  intro x
  induction x with
  | nil => intro y _ _; cases y <;> simp [u8s, Op.bytesLess, less]
  | cons a x ih =>
    intro y hx hy
    cases y with
    | nil => simp [u8s, Op.bytesLess, less]
    | cons b y =>
      have ha := hx a (by simp)
      have hb := hy b (by simp)
      have := ih y (fun z hz => hx z (by simp [hz])) (fun z hz => hy z (by simp [hz]))
      simp only [u8s, List.map_cons, Op.bytesLess, less]
      by_cases e : a = b
      · subst e
        rw [if_pos rfl]
        have h : decide (UInt8.ofNat a.toNat < UInt8.ofNat a.toNat) = false := by rw [decide_eq_false_iff_not, u8_lt ha ha]; omega
        rw [h]
        simpa [u8s] using this
      · rw [if_neg e]
        have h : (UInt8.ofNat a.toNat == UInt8.ofNat b.toNat) = false := by rw [beq_eq_false_iff_ne]; exact fun h => e (byte_inj ha hb h)
        rw [h]
        simp only [Bool.false_and, Bool.or_false]
        rw [decide_eq_decide, u8_lt ha hb]
theorem less_pre (p x y : List Int) : less (p ++ x) (p ++ y) = less x y := by
  induction p with
  | nil => rfl
  | cons a p ih => simp only [List.cons_append, less, if_true]; exact ih
theorem form_less {r s : Int} (hr : size r ≠ 0) (hs : size s ≠ 0) (h : r ≠ s) (x y : List Int) : less (form r ++ x) (form s ++ y) = decide (r < s) := by
  have h1 := size_range r
  have h2 := size_range s
  have a1 : size r = 1 → 0 ≤ r ∧ r < 128 := size_one
  have a2 : size r = 2 → 128 ≤ r ∧ r < 2048 := size_two
  have a3 : size r = 3 → 2048 ≤ r ∧ r < 65536 := size_three
  have a4 : size r = 4 → 65536 ≤ r ∧ r < 1114112 := size_four
  have b1 : size s = 1 → 0 ≤ s ∧ s < 128 := size_one
  have b2 : size s = 2 → 128 ≤ s ∧ s < 2048 := size_two
  have b3 : size s = 3 → 2048 ≤ s ∧ s < 65536 := size_three
  have b4 : size s = 4 → 65536 ≤ s ∧ s < 1114112 := size_four
  rcases h1 with h1 | h1 | h1 | h1 | h1
  · exact absurd h1 hr
  all_goals
    rcases h2 with h2 | h2 | h2 | h2 | h2
    · exact absurd h2 hs
    all_goals
      simp only [form, h1, h2, List.cons_append, List.nil_append, less, if_true, Int.reduceEq, if_false]
      (try (repeat' split))
      all_goals first
        | rfl
        | omega
        | (rw [decide_eq_decide]; omega)
        | (rw [eq_comm, decide_eq_true_iff]; omega)
        | (rw [eq_comm, decide_eq_false_iff_not]; omega)
theorem forms_less : ∀ (a b : List Int), Gd a → Gd b → less (forms a) (forms b) = less a b := by
  intro a
  induction a with
  | nil =>
    intro b _ hb
    cases b with
    | nil => rfl
    | cons s b =>
      have hs : size s ≠ 0 := hb s (by simp)
      rw [forms_cons]
      have := form_ne hs (forms b)
      cases hx : form s ++ forms b with
      | nil => exact absurd hx this
      | cons _ _ => rfl
  | cons r a ih =>
    intro b ha hb
    have hr : size r ≠ 0 := ha r (by simp)
    cases b with
    | nil =>
      rw [forms_cons]
      have := form_ne hr (forms a)
      cases hx : form r ++ forms a with
      | nil => exact absurd hx this
      | cons _ _ => rfl
    | cons s b =>
      have hs : size s ≠ 0 := hb s (by simp)
      rw [forms_cons, forms_cons, less]
      by_cases e : r = s
      · subst e
        rw [if_pos rfl, less_pre]
        exact ih b (fun x hx => ha x (by simp [hx])) (fun x hx => hb x (by simp [hx]))
      · rw [if_neg e, form_less hr hs e]
theorem drop_rd {l : List Int} {i : Nat} (h : i < l.length) : l.drop i = rd l i :: l.drop (i + 1) := by
  rw [List.drop_eq_getElem_cons h]; simp [rd, List.getD, List.getElem?_eq_getElem h]
theorem order_l0 (a b x y : List Int) (ha : (a.length : Int) ≤ 4611686018427387904) : ∀ (d i k : Nat), a.length - i ≤ d → i ≤ a.length → i ≤ b.length → 2 * d + 2 ≤ k →
    colophonlaw01_UtfOrder.l0 k a b x y (decide ((a.length : Int) < (b.length : Int))) i = some (Op.bytesLess ((strOfNums x).toList) ((strOfNums y).toList) == less (a.drop i) (b.drop i)) := by
  have hend : ∀ (i k : Nat), i ≤ a.length → i ≤ b.length → (i = a.length ∨ i = b.length) → 1 ≤ k → colophonlaw01_UtfOrder.j2 k a b x y (decide ((a.length : Int) < (b.length : Int))) i false = some (Op.bytesLess ((strOfNums x).toList) ((strOfNums y).toList) == less (a.drop i) (b.drop i)) := by
    intro i k h1 h2 h3 hk
    obtain ⟨k, rfl⟩ : ∃ m, k = m + 1 := ⟨k - 1, by omega⟩
    rw [colophonlaw01_UtfOrder.j2, if_neg (by simp)]
    congr 2
    by_cases e1 : i = a.length
    · rw [List.drop_eq_nil_of_le (by omega)]
      by_cases e2 : i = b.length
      · rw [List.drop_eq_nil_of_le (by omega)]; simp [less]; omega
      · rw [drop_rd (by omega)]; simp [less]; omega
    · rw [drop_rd (l := a) (by omega), show b.drop i = [] from List.drop_eq_nil_of_le (by omega)]; simp [less]; omega
  intro d
  induction d with
  | zero =>
    intro i k hd h1 h2 hk
    obtain ⟨k, rfl⟩ : ∃ m, k = m + 1 := ⟨k - 1, by omega⟩
    rw [colophonlaw01_UtfOrder.l0, if_neg (by omega)]
    exact hend i k h1 h2 (.inl (by omega)) (by omega)
  | succ d ih =>
    intro i k hd h1 h2 hk
    obtain ⟨k, rfl⟩ : ∃ m, k = m + 2 := ⟨k - 2, by omega⟩
    rw [colophonlaw01_UtfOrder.l0]
    by_cases h : i = a.length
    · rw [if_neg (by omega)]
      exact hend i _ h1 h2 (.inl h) (by omega)
    · rw [if_pos (by omega)]
      by_cases h' : i = b.length
      · rw [decide_eq_false (p := (i : Int) < (b.length : Int)) (by omega)]
        exact hend i _ h1 h2 (.inr h') (by omega)
      · rw [decide_eq_true (p := (i : Int) < (b.length : Int)) (by omega), colophonlaw01_UtfOrder.j2, if_pos rfl, if_pos (by omega), if_pos (by omega), if_pos (by omega)]
        rw [drop_rd (l := a) (by omega), drop_rd (l := b) (by omega), less]
        by_cases e : rd a (i : Int) = rd b (i : Int)
        · rw [if_pos e, if_pos e, wrap_in (by omega) (by omega)]
          have := ih (i + 1) k (by omega) (by omega) (by omega) (by omega)
          rwa [show ((i + 1 : Nat) : Int) = (i : Int) + 1 by omega] at this
        · rw [if_neg e, if_neg e]

/-! ### cuts of a text -/
/-- How many bytes of numbers' forms have room in q bytes. -/
def room : List Int → Int → Int
  | [], _ => 0
  | r :: m, q => if size r > q then 0 else size r + room m (q - size r)
theorem room_range : ∀ (m : List Int) (q : Int), Gd m → 0 ≤ room m q ∧ room m q ≤ (forms m).length ∧ (0 < room m q → room m q ≤ q) := by
  intro m
  induction m with
  | nil => intro q _; simp [room, forms]
  | cons r m ih =>
    intro q h
    have h1 := form_len r
    have h2 := size_range r
    have h3 : size r ≠ 0 := h r (by simp)
    have h4 := ih (q - size r) (fun x hx => h x (by simp [hx]))
    rw [room, forms_cons, List.length_append]
    split <;> omega
theorem cut_forms (n : Int) (hn0 : -9223372036854775808 ≤ n) (hn1 : n ≤ 9223372036854775807) : ∀ (m pre : List Int) (k : Nat), Gd m → ((forms (pre ++ m)).length : Int) ≤ 4611686018427387904 → (((forms pre).length : Int) ≤ n ∨ (forms pre).length = 0) → m.length + 1 ≤ k →
    utf_Cut.l0 k (forms (pre ++ m)) n (forms pre).length = some ((forms pre).length + room m (n - (forms pre).length)) := by
  intro m
  induction m with
  | nil =>
    intro pre k _ hl ha hk
    obtain ⟨k, rfl⟩ : ∃ m, k = m + 1 := ⟨k - 1, by omega⟩
    rw [utf_Cut.l0, if_neg (by simp), room]; simp
  | cons r m ih =>
    intro pre k h hl ha hk
    obtain ⟨k, rfl⟩ : ∃ m, k = m + 1 := ⟨k - 1, by omega⟩
    have h1 := form_len r
    have h2 := size_range r
    have h3 : size r ≠ 0 := h r (by simp)
    have hlen : (forms (pre ++ r :: m)).length = (forms pre).length + ((form r).length + (forms m).length) := by rw [forms_append, forms_cons]; simp
    rw [utf_Cut.l0, if_pos (by omega), if_pos (by omega), if_pos (by omega), Int.toNat_natCast]
    have hd : (forms (pre ++ r :: m)).drop (forms pre).length = form r ++ forms m := by
      rw [forms_append, forms_cons, List.drop_left' rfl]
    have hb : Bytes (form r ++ forms m) := by rw [← forms_cons]; exact forms_byte _
    rw [hd, next_some hb (by rw [List.length_append]; omega), nx_form r h3 _ (forms_byte m)]
    simp only [Option.bind_some]
    rw [if_neg h3, room, wrap_in (x := n - ((forms pre).length : Int)) (by omega) (by omega), wrap_in (x := ((forms pre).length : Int) + size r) (by omega) (by omega)]
    by_cases hc : size r > n - ((forms pre).length : Int)
    · rw [if_pos hc, if_pos hc]; simp
    · rw [if_neg hc, if_neg hc]
      have e1 : forms (pre ++ [r]) = forms pre ++ form r := by rw [forms_append]; simp [forms]
      have := ih (pre ++ [r]) k (fun x hx => h x (by simp [hx])) (by simpa using hl) (by rw [e1, List.length_append]; omega) (by simp at hk; omega)
      rw [List.append_assoc, List.singleton_append, e1, List.length_append] at this
      rw [show ((((forms pre).length + (form r).length : Nat)) : Int) = ((forms pre).length : Int) + size r by omega] at this
      rw [this]
      congr 1
      rw [show n - (((forms pre).length : Int) + size r) = n - ((forms pre).length : Int) - size r by omega]
      omega
theorem cut_text {m : List Int} (h : Gd m) (hl : ((forms m).length : Int) ≤ 4611686018427387904) (n : Int) (hn0 : -9223372036854775808 ≤ n) (hn1 : n ≤ 9223372036854775807) (k : Nat) (hk : m.length + 1 ≤ k) : utf_Cut.f k (forms m) n = some (room m n) := by
  have := cut_forms n hn0 hn1 m [] k h (by simpa using hl) (.inr rfl) hk
  simp only [forms, List.flatMap_nil, List.length_nil, List.nil_append] at this
  simpa [utf_Cut.f, forms] using this
theorem room_left : ∀ (a b : List Int), Gd a → Gd b → room (a ++ b) (forms a).length = (forms a).length := by
  intro a
  induction a with
  | nil =>
    intro b _ hb
    cases b with
    | nil => simp [room, forms]
    | cons s b =>
      have hs : size s ≠ 0 := hb s (by simp)
      have := size_range s
      simp only [List.nil_append, room, forms, List.flatMap_nil, List.length_nil]
      rw [if_pos (by simp; omega)]; simp
  | cons r a ih =>
    intro b ha hb
    have h1 := form_len r
    have h2 := size_range r
    have h4 := ih b (fun x hx => ha x (by simp [hx])) hb
    rw [List.cons_append, room, forms_cons, List.length_append]
    rw [if_neg (by omega), show (((form r).length + (forms a).length : Nat) : Int) - size r = ((forms a).length : Int) by omega, h4]
    omega
/-- Where bytes that are no text are cut: ahead of their end. -/
theorem cut_bad {l : List Int} (hb : Bytes l) (hl : (l.length : Int) ≤ 4611686018427387904) : ∀ (d a k : Nat) (acc : List Int), l.length - a ≤ d → a ≤ l.length → d + 1 ≤ k → (decR d (l.drop a) acc a).2.2 ≠ 0 → ∃ j : Nat, j < l.length ∧ utf_Cut.l0 k l (l.length : Int) a = some (j : Int) := by
  intro d
  induction d with
  | zero => intro a k acc _ _ _ h; simp [decR] at h
  | succ d ih =>
    intro a k acc hd ha hk h
    obtain ⟨k, rfl⟩ : ∃ m, k = m + 1 := ⟨k - 1, by omega⟩
    rw [decR] at h
    by_cases he : l.drop a = []
    · rw [if_pos he] at h; exact absurd rfl h
    · rw [if_neg he] at h
      have hlt : a < l.length := by
        apply Classical.byContradiction
        intro hn
        exact he (List.drop_eq_nil_of_le (by omega))
      rw [utf_Cut.l0, if_pos (by omega), if_pos (by omega), if_pos (by omega), Int.toNat_natCast, next_some (hb.drop a) (by rw [List.length_drop]; omega)]
      simp only [Option.bind_some]
      have hr := nx_range (l := l.drop a)
      rw [List.length_drop] at hr
      by_cases hz : (nx (l.drop a)).2 = 0
      · rw [if_pos hz]; exact ⟨a, hlt, rfl⟩
      · rw [if_neg hz] at h
        have hr2 := hr.2 hz
        rw [if_neg hz, wrap_in (x := (l.length : Int) - a) (by omega) (by omega), if_neg (by omega), wrap_in (by omega) (by omega)]
        rw [List.drop_drop] at h
        have := ih (a + (nx (l.drop a)).2.toNat) k _ (by omega) (by omega) (by omega) h
        rwa [show ((a + (nx (l.drop a)).2.toNat : Nat) : Int) = (a : Int) + (nx (l.drop a)).2 by omega] at this

/-! ### heads -/
def head (x : Int) : Bool := decide (x < 128 ∨ 191 < x)
def heads (l : List Int) : Nat := (l.filter head).length
theorem form_head {r : Int} (hr : size r ≠ 0) : heads (form r) = 1 := by
  have h1 := size_range r
  rcases h1 with h1 | h1 | h1 | h1 | h1
  · exact absurd h1 hr
  · have := size_one h1
    have c1 : head r = true := by simp [head]; omega
    simp [heads, form, h1, c1]
  · have := size_two h1
    have c1 : head (192 + r / 64) = true := by simp [head]; omega
    have c2 : head (128 + r % 64) = false := by simp [head]; omega
    simp [heads, form, h1, c1, c2]
  · have := size_three h1
    have c1 : head (224 + r / 4096) = true := by simp [head]; omega
    have c2 : head (128 + r % 64) = false := by simp [head]; omega
    have c3 : head (128 + r / 64 % 64) = false := by simp [head]; omega
    simp [heads, form, h1, c1, c2, c3]
  · have := size_four h1
    have c1 : head (240 + r / 262144) = true := by simp [head]; omega
    have c2 : head (128 + r % 64) = false := by simp [head]; omega
    have c3 : head (128 + r / 64 % 64) = false := by simp [head]; omega
    have c4 : head (128 + r / 4096 % 64) = false := by simp [head]; omega
    simp [heads, form, h1, c1, c2, c3, c4]
theorem forms_heads : ∀ (m : List Int), Gd m → heads (forms m) = m.length := by
  intro m
  induction m with
  | nil => intro _; rfl
  | cons r m ih =>
    intro h
    rw [forms_cons]
    have h1 := form_head (h r (by simp))
    have h2 := ih (fun x hx => h x (by simp [hx]))
    simp only [heads, List.filter_append, List.length_append, List.length_cons] at *
    omega
/-- The first byte of a form is a head, the others are none. -/
theorem form_bytes {r : Int} (hr : size r ≠ 0) (x : List Int) : head (rd (form r ++ x) 0) = true ∧ ∀ j : Nat, 0 < j → (j : Int) < size r → head (rd (form r ++ x) j) = false := by
  have h1 := size_range r
  rcases h1 with h1 | h1 | h1 | h1 | h1
  · exact absurd h1 hr
  · have := size_one h1
    refine ⟨by simp [form, h1, rd, head]; omega, fun j h2 h3 => by omega⟩
  · have := size_two h1
    refine ⟨by simp [form, h1, rd, head]; omega, fun j h2 h3 => ?_⟩
    obtain rfl : j = 1 := by omega
    simp [form, h1, rd, head]; omega
  · have := size_three h1
    refine ⟨by simp [form, h1, rd, head]; omega, fun j h2 h3 => ?_⟩
    obtain rfl | rfl : j = 1 ∨ j = 2 := by omega
    · simp [form, h1, rd, head]; omega
    · simp [form, h1, rd, head]; omega
  · have := size_four h1
    refine ⟨by simp [form, h1, rd, head]; omega, fun j h2 h3 => ?_⟩
    obtain rfl | rfl | rfl : j = 1 ∨ j = 2 ∨ j = 3 := by omega
    · simp [form, h1, rd, head]; omega
    · simp [form, h1, rd, head]; omega
    · simp [form, h1, rd, head]; omega
theorem rd_right (p x : List Int) (j : Nat) : rd (p ++ x) ((p.length + j : Nat) : Int) = rd x (j : Int) := by
  unfold rd
  rw [Int.toNat_natCast, Int.toNat_natCast]
  simp [List.getD, List.getElem?_append_right]
/-- Where a text is cut stands a head; from there to n stands none. -/
theorem room_head : ∀ (m : List Int) (q : Int), Gd m → room m q < (forms m).length → head (rd (forms m) (room m q)) = true ∧ q < (forms m).length ∧ ∀ j : Nat, room m q < j → (j : Int) < (forms m).length → (j : Int) ≤ q → head (rd (forms m) j) = false := by
  intro m
  induction m with
  | nil => intro q _ h; simp [room, forms] at h
  | cons r m ih =>
    intro q h hlt
    have h1 := form_len r
    have h2 := size_range r
    have h3 : size r ≠ 0 := h r (by simp)
    have hf := form_bytes h3 (forms m)
    rw [forms_cons] at hlt ⊢
    rw [room] at hlt ⊢
    rw [List.length_append] at hlt ⊢
    by_cases hc : size r > q
    · rw [if_pos hc] at hlt ⊢
      refine ⟨hf.1, by omega, fun j h4 h5 h6 => hf.2 j (by omega) (by omega)⟩
    · rw [if_neg hc] at hlt ⊢
      have hm : Gd m := fun x hx => h x (by simp [hx])
      have hr := room_range m (q - size r) hm
      have := ih (q - size r) hm (by omega)
      obtain ⟨c, hcn⟩ : ∃ c : Nat, room m (q - size r) = c := ⟨(room m (q - size r)).toNat, by omega⟩
      rw [hcn] at this hlt hr ⊢
      refine ⟨?_, by omega, fun j h4 h5 h6 => ?_⟩
      · rw [show size r + (c : Int) = (((form r).length + c : Nat) : Int) by omega, rd_right]
        exact this.1
      · obtain ⟨i, rfl⟩ : ∃ i, j = (form r).length + i := ⟨j - (form r).length, by omega⟩
        rw [rd_right]
        exact this.2.2 i (by omega) (by omega) (by omega)
end Go.Proofs.Ytbdhclhioeeanaa.U
