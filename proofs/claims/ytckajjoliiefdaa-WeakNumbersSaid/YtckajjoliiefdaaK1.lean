/- Layer 9 in plain Lean: what the code's rules make of types. -/
import Derived.Test.YtckajjoliiefdaaPWx1
import Derived.Test.YtckajjoliiefdaaPWx16
import Derived.Test.YtckajjoliiefdaaPWx2
import Derived.Test.YtckajjoliiefdaaPWx3
import Derived.Test.YtckajjoliiefdaaPWx4
import Derived.Test.YtckajjoliiefdaaPWx6
import Derived.Test.YtckajjoliiefdaaPWx7
import Derived.Test.YtckajjoliiefdaaPWx8
namespace Go.Proofs.Ytckajjoliiefdaa.K
open Go.RowKit Go.Proofs.Ytckajjoliiefdaa.PW Go.Proofs.YtckajjoliiefdaaW.PrintWords Go.Proofs.YtckajjoliiefdaaW.PrintLast

theorem wrap_in {x : Int} (h0 : -9223372036854775808 ≤ x) (h1 : x ≤ 9223372036854775807) : wrap64 x = x := by
  unfold wrap64
  omega
theorem rd_mid (d : List Int) (x : Int) (q : List Int) : rd (d ++ x :: q) (d.length : Int) = x := by simp [rd]
theorem rd_mid' (d : List Int) (x : Int) (q : List Int) (i : Int) (h : i = d.length) : rd (d ++ x :: q) i = x := by rw [h]; exact rd_mid d x q
theorem set_mid (d : List Int) (x y : Int) (q : List Int) : (d ++ x :: q).set d.length y = d ++ y :: q := by simp
theorem rd_get (l : List Int) (i : Nat) (h : i < l.length) : rd l (i : Int) = l[i] := by simp [rd, h]

/-! ### what types may be -/
def okT (x : Int) : Prop := 1 ≤ x ∧ x ≤ 23 ∧ x ≠ 10 ∧ (x < 15 ∨ 19 < x)
instance (x : Int) : Decidable (okT x) := by unfold okT; exact inferInstance
def wrong (l : List Int) (a1 : Int) : Int := if a1 = 1 ∨ a1 = 2 then (if ∀ x ∈ l, okT x then 0 else 50) else 2
theorem removed_eq (x : Int) : explicit_Removed.f x = some (decide (x = 10 ∨ 15 ≤ x ∧ x ≤ 19)) := by
  unfold explicit_Removed.f
  repeat' split
  all_goals (congr 1; symm; first | (apply decide_eq_true; omega) | (apply decide_eq_false; omega))
theorem may_l0 : ∀ (q d : List Int) (n i : Int) (k : Nat), i = d.length → n = d.length + q.length → n < 17592186044416 → q.length < k →
    weak_may.l0 k (d ++ q) n i = some (if ∀ x ∈ q, okT x then 0 else 50) := by
  intro q
  induction q with
  | nil =>
    intro d n i k hi hn hm hk
    obtain ⟨k, rfl⟩ : ∃ k', k = k' + 1 := ⟨k - 1, by omega⟩
    rw [weak_may.l0, if_neg (by simp at hn; omega)]
    simp
  | cons x q ih =>
    intro d n i k hi hn hm hk
    simp only [List.length_cons] at hn hk
    obtain ⟨k, rfl⟩ : ∃ k', k = k' + 1 := ⟨k - 1, by omega⟩
    have e3 : rd (d ++ x :: q) i = x := rd_mid' d x q i hi
    have nx : weak_may.l0 k (d ++ x :: q) n (wrap64 (i + 1)) = some (if ∀ x ∈ q, okT x then 0 else 50) := by
      have := ih (d ++ [x]) n (i + 1) k (by simp; omega) (by simp; omega) hm (by omega)
      rw [wrap_in (by omega) (by omega)]
      simpa using this
    rw [weak_may.l0, if_pos (by omega), if_pos (by omega), if_pos (by simp; omega), e3, removed_eq, nx]
    by_cases h1 : x < 1
    · rw [if_pos h1, if_neg (fun h => by have := h x (by simp); unfold okT at this; omega)]
    · rw [if_neg h1]
      by_cases h2 : x > 23
      · rw [if_pos h2, if_neg (fun h => by have := h x (by simp); unfold okT at this; omega)]
      · rw [if_neg h2]
        by_cases h3 : x = 10 ∨ 15 ≤ x ∧ x ≤ 19
        · rw [Option.bind_some, if_pos (decide_eq_true h3), if_neg (fun h => by have := h x (by simp); unfold okT at this; omega)]
        · rw [Option.bind_some, if_neg (by simpa using h3)]
          have hx : okT x := by unfold okT; omega
          congr 1
          by_cases h4 : ∀ x ∈ q, okT x
          · rw [if_pos h4, if_pos (by simpa [hx] using h4)]
          · rw [if_neg h4, if_neg (fun h => h4 (fun y hy => h y (by simp [hy])))]
theorem may_f (k : Nat) (l : List Int) (a1 : Int) (hm : l.length < 17592186044416) (hk : l.length + 2 < k) : weak_may.f k l a1 = some (wrong l a1) := by
  obtain ⟨k, rfl⟩ : ∃ k', k = k' + 1 := ⟨k - 1, by omega⟩
  have h := may_l0 l [] l.length 0 k (by simp) (by simp) (by omega) (by omega)
  rw [List.nil_append] at h
  unfold weak_may.f wrong
  by_cases h1 : a1 = 1
  · rw [if_pos h1, if_pos (.inl h1), weak_may.j0, if_neg (by decide), h]
  · rw [if_neg h1]
    by_cases h2 : a1 = 2
    · rw [if_pos (.inr h2), weak_may.j0, if_neg (by simp [h2]), h]
    · rw [if_neg (by omega), weak_may.j0, if_pos (by simp [h2])]

/-! ### the rules, one by one -/
def gm (a : Int) : List Int → List Int
  | [] => []
  | x :: q => (if x = 9 then (if a ≥ 20 then 14 else a) else x) :: gm (if x = 9 then (if a ≥ 20 then 14 else a) else x) q
theorem gm_len : ∀ (l : List Int) (a : Int), (gm a l).length = l.length
  | [], _ => rfl
  | _ :: q, _ => by simp [gm, gm_len q]
theorem marks_l0 : ∀ (q d : List Int) (a n i : Int) (k : Nat), i = d.length → n = d.length + q.length → n < 17592186044416 → q.length < k →
    weak_marks.l0 k (d ++ q) a n i = some (d ++ gm a q) := by
  intro q
  induction q with
  | nil =>
    intro d a n i k hi hn hm hk
    obtain ⟨k, rfl⟩ : ∃ k', k = k' + 1 := ⟨k - 1, by omega⟩
    rw [weak_marks.l0, if_neg (by simp at hn; omega)]
    rfl
  | cons x q ih =>
    intro d a n i k hi hn hm hk
    simp only [List.length_cons] at hn hk
    obtain ⟨k, rfl⟩ : ∃ k', k = k' + 1 := ⟨k - 1, by omega⟩
    have e1 : i.toNat = d.length := by omega
    have e3 : ∀ y, rd (d ++ y :: q) i = y := fun y => rd_mid' d y q i hi
    have nx : ∀ y, weak_marks.l0 k (d ++ y :: q) y n (wrap64 (i + 1)) = some (d ++ y :: gm y q) := fun y => by
      have := ih (d ++ [y]) y n (i + 1) k (by simp; omega) (by simp; omega) hm (by omega)
      rw [wrap_in (by omega) (by omega)]
      simpa using this
    rw [weak_marks.l0, if_pos (by omega), if_pos (by omega), if_pos (by simp; omega), e3, e1]
    by_cases hx : x = 9
    · by_cases ha : a ≥ 20
      · simp only [gm, if_pos hx, if_pos ha, Option.bind_some, set_mid, e3, nx]
      · simp only [gm, if_pos hx, if_neg ha, Option.bind_some, set_mid, e3, nx]
    · simp only [gm, if_neg hx, nx]
theorem marks_f (k : Nat) (l : List Int) (a1 : Int) (hm : l.length < 17592186044416) (hk : l.length < k) : weak_marks.f k l a1 = some (gm a1 l) :=
  marks_l0 l [] a1 _ 0 k (by simp) (by simp) (by omega) hk
def ml (l : List Int) : List Int := l.map fun x => if x = 3 then 2 else x
theorem letters_l0 : ∀ (q d : List Int) (n i : Int) (k : Nat), i = d.length → n = d.length + q.length → n < 17592186044416 → q.length < k →
    weak_letters.l0 k (d ++ q) n i = some (d ++ ml q) := by
  intro q
  induction q with
  | nil =>
    intro d n i k hi hn hm hk
    obtain ⟨k, rfl⟩ : ∃ k', k = k' + 1 := ⟨k - 1, by omega⟩
    rw [weak_letters.l0, if_neg (by simp at hn; omega)]
    rfl
  | cons x q ih =>
    intro d n i k hi hn hm hk
    simp only [List.length_cons] at hn hk
    obtain ⟨k, rfl⟩ : ∃ k', k = k' + 1 := ⟨k - 1, by omega⟩
    have e1 : i.toNat = d.length := by omega
    have e3 : ∀ y, rd (d ++ y :: q) i = y := fun y => rd_mid' d y q i hi
    have nx : ∀ y, weak_letters.l0 k (d ++ y :: q) n (wrap64 (i + 1)) = some (d ++ y :: ml q) := fun y => by
      have := ih (d ++ [y]) n (i + 1) k (by simp; omega) (by simp; omega) hm (by omega)
      rw [wrap_in (by omega) (by omega)]
      simpa using this
    rw [weak_letters.l0, if_pos (by omega), if_pos (by omega), if_pos (by simp; omega), e3, e1]
    by_cases hx : x = 3
    · simp only [ml, List.map_cons, if_pos hx, set_mid]
      exact nx 2
    · simp only [ml, List.map_cons, if_neg hx]
      exact nx x
theorem letters_f (k : Nat) (l : List Int) (a1 : Int) (hm : l.length < 17592186044416) (hk : l.length < k) : weak_letters.f k l a1 = some (ml l) :=
  letters_l0 l [] _ 0 k (by simp) (by simp) (by omega) hk
def mr (l : List Int) : List Int := l.map fun x => if x = 5 ∨ x = 6 ∨ x = 8 then 14 else x
theorem rest_l0 : ∀ (q d : List Int) (n i : Int) (k : Nat), i = d.length → n = d.length + q.length → n < 17592186044416 → q.length < k →
    weak_rest.l0 k (d ++ q) n i = some (d ++ mr q) := by
  intro q
  induction q with
  | nil =>
    intro d n i k hi hn hm hk
    obtain ⟨k, rfl⟩ : ∃ k', k = k' + 1 := ⟨k - 1, by omega⟩
    rw [weak_rest.l0, if_neg (by simp at hn; omega)]
    rfl
  | cons x q ih =>
    intro d n i k hi hn hm hk
    simp only [List.length_cons] at hn hk
    obtain ⟨k, rfl⟩ : ∃ k', k = k' + 1 := ⟨k - 1, by omega⟩
    have e1 : i.toNat = d.length := by omega
    have e3 : ∀ y, rd (d ++ y :: q) i = y := fun y => rd_mid' d y q i hi
    have nx : ∀ y, weak_rest.l0 k (d ++ y :: q) n (wrap64 (i + 1)) = some (d ++ y :: mr q) := fun y => by
      have := ih (d ++ [y]) n (i + 1) k (by simp; omega) (by simp; omega) hm (by omega)
      rw [wrap_in (by omega) (by omega)]
      simpa using this
    rw [weak_rest.l0, if_pos (by omega), if_pos (by omega), if_pos (by simp; omega), e3, e1]
    by_cases h5 : x = 5
    · simp only [mr, List.map_cons, if_pos h5, set_mid, if_pos (show x = 5 ∨ x = 6 ∨ x = 8 from .inl h5)]
      exact nx 14
    · rw [if_neg h5]
      by_cases h6 : x = 6
      · simp only [mr, List.map_cons, if_pos h6, set_mid, if_pos (show x = 5 ∨ x = 6 ∨ x = 8 from .inr (.inl h6))]
        exact nx 14
      · rw [if_neg h6]
        by_cases h8 : x = 8
        · simp only [mr, List.map_cons, if_pos h8, set_mid, if_pos (show x = 5 ∨ x = 6 ∨ x = 8 from .inr (.inr h8))]
          exact nx 14
        · simp only [mr, List.map_cons, if_neg h8, if_neg (show ¬ (x = 5 ∨ x = 6 ∨ x = 8) by omega)]
          exact nx x
theorem rest_f (k : Nat) (l : List Int) (a1 : Int) (hm : l.length < 17592186044416) (hk : l.length < k) : weak_rest.f k l a1 = some (mr l) :=
  rest_l0 l [] _ 0 k (by simp) (by simp) (by omega) hk
/-- The fourth rule behind p: p, what stands, what comes. -/
def sgl (p x y : Int) : Int := if p = y ∧ (x = 8 ∧ (p = 4 ∨ p = 7) ∨ x = 5 ∧ p = 4) then p else x
def gs (p : Int) : List Int → List Int
  | [] => []
  | [x] => [x]
  | x :: y :: q => sgl p x y :: gs (sgl p x y) (y :: q)
def gs0 : List Int → List Int
  | [] => []
  | x :: q => x :: gs x q
theorem gs_len : ∀ (n : Nat) (l : List Int) (p : Int), l.length ≤ n → (gs p l).length = l.length
  | _, [], _, _ => rfl
  | _, [_], _, _ => rfl
  | 0, _ :: _ :: _, _, h => by simp at h
  | n + 1, x :: y :: q, p, h => by
    have := gs_len n (y :: q) (sgl p x y) (by simp at h ⊢; omega)
    simp [gs, this]
theorem gs0_len (l : List Int) : (gs0 l).length = l.length := by
  cases l with
  | nil => rfl
  | cons x q => simp [gs0, gs_len _ q x (Nat.le_refl _)]
theorem single_l0 : ∀ (n : Nat) (q d : List Int) (p i : Int) (k : Nat), q.length ≤ n → i = d.length + 1 → d.length + 1 + q.length < 17592186044416 → q.length < k →
    weak_single.l0 k (d ++ p :: q) i = some (d ++ p :: gs p q) := by
  intro n
  induction n with
  | zero =>
    intro q d p i k hq hi hm hk
    obtain ⟨k, rfl⟩ : ∃ k', k = k' + 1 := ⟨k - 1, by omega⟩
    obtain rfl : q = [] := List.length_eq_zero_iff.mp (by omega)
    simp only [List.length_nil] at hm
    rw [weak_single.l0, wrap_in (by omega) (by omega), if_neg (by simp; omega)]
    rfl
  | succ n ih =>
    intro q d p i k hq hi hm hk
    obtain ⟨k, rfl⟩ : ∃ k', k = k' + 1 := ⟨k - 1, by omega⟩
    match q, hq, hm, hk with
    | [], hq, hm, hk =>
      simp only [List.length_nil] at hm
      rw [weak_single.l0, wrap_in (by omega) (by omega), if_neg (by simp; omega)]
      rfl
    | [x], hq, hm, hk =>
      simp only [List.length_cons, List.length_nil] at hm
      rw [weak_single.l0, wrap_in (by omega) (by omega), if_neg (by simp; omega)]
      rfl
    | x :: y :: q, hq, hm, hk =>
      simp only [List.length_cons] at hm hq hk
      have e1 : i.toNat = d.length + 1 := by omega
      have w1 : wrap64 (i + 1) = i + 1 := wrap_in (by omega) (by omega)
      have w2 : wrap64 (i - 1) = i - 1 := wrap_in (by omega) (by omega)
      have r1 : rd (d ++ p :: x :: y :: q) (i - 1) = p := rd_mid' d p _ _ (by omega)
      have r2 : rd (d ++ p :: x :: y :: q) i = x := by
        have := rd_mid' (d ++ [p]) x (y :: q) i (by simp; omega)
        simpa using this
      have r3 : rd (d ++ p :: x :: y :: q) (i + 1) = y := by
        have := rd_mid' (d ++ [p, x]) y q (i + 1) (by simp; omega)
        simpa using this
      have st : ∀ z, (d ++ p :: x :: y :: q).set (d.length + 1) z = d ++ p :: z :: y :: q := fun z => by
        simp
      have nx : ∀ z, weak_single.l0 k (d ++ p :: z :: y :: q) (i + 1) = some (d ++ p :: z :: gs z (y :: q)) := fun z => by
        have := ih (y :: q) (d ++ [p]) z (i + 1) k (by simp; omega) (by simp; omega) (by simp; omega) (by simp; omega)
        simpa using this
      have hl : ((d ++ p :: x :: y :: q).length : Int) = d.length + 3 + q.length := by simp; omega
      rw [weak_single.l0, w1, w2, hl, if_pos (by omega), if_pos (by omega), if_pos (by omega), if_pos (by omega), if_pos (by omega), if_pos (by omega), r1, r2, r3, e1, st, gs]
      have key : ∀ z, z = sgl p x y → weak_single.l0 k (d ++ p :: z :: y :: q) (i + 1) = some (d ++ p :: sgl p x y :: gs (sgl p x y) (y :: q)) := fun z h => by
        rw [← h]
        exact nx z
      repeat' split
      all_goals exact key _ (by unfold sgl; split <;> omega)
theorem single_f (k : Nat) (l : List Int) (a1 : Int) (hm : l.length < 17592186044416) (hk : l.length < k) : weak_single.f k l a1 = some (gs0 l) := by
  cases l with
  | nil =>
    obtain ⟨k, rfl⟩ : ∃ k', k = k' + 1 := ⟨k - 1, by simp at hk; omega⟩
    unfold weak_single.f
    rw [weak_single.l0, wrap_in (by decide) (by decide), if_neg (by simp)]
    rfl
  | cons x q =>
    simp only [List.length_cons] at hm hk
    exact single_l0 q.length q [] x 1 k (Nat.le_refl _) (by simp) (by simp; omega) (by omega)
theorem arabic_f (l : List Int) (a1 : Int) (hm : l.length < 17592186044416) : weak_arabic.f l a1 = some (weak_arabic.go a1 l) := by
  unfold weak_arabic.f
  rw [if_pos (by omega)]
theorem latin_f (l : List Int) (a1 : Int) (hm : l.length < 17592186044416) : weak_latin.f l a1 = some (weak_latin.go a1 l) := by
  unfold weak_latin.f
  rw [if_pos (by omega)]
def sg (l : List Int) : List Int := weak_signs.outer (l.length + 1) l 0 l
theorem signs_f (l : List Int) (a1 : Int) (hm : l.length < 17592186044416) : weak_signs.f l a1 = some (sg l) := by
  unfold weak_signs.f
  rw [if_pos hm]
  rfl
theorem run_le : ∀ (q : List Int), weak_signs.run q ≤ q.length := fun q => by
  unfold weak_signs.run
  induction q with
  | nil => simp
  | cons x q ih =>
    by_cases h : x = 6
    · simp [h]; exact ih
    · simp [h]
theorem outer_len : ∀ (d : Nat) (was xs : List Int) (i : Nat), xs.length = was.length → (weak_signs.outer d was i xs).length = was.length
  | 0, _, _, _, h => h
  | d + 1, was, xs, i, h => by
    unfold weak_signs.outer
    split
    · rename_i hi
      have hr := run_le (was.drop i)
      simp only [List.length_drop] at hr
      apply outer_len d
      split
      · rw [weak_signs.fill_len _ _ _ (by omega) (by omega)]
        exact h
      · exact h
    · exact h
theorem sg_len (l : List Int) : (sg l).length = l.length := outer_len _ _ _ _ rfl
/-- The rule of number j (from 0 on). -/
def ap (j : Nat) (a1 : Int) (l : List Int) : List Int :=
  if j = 0 then gm a1 l else if j = 1 then weak_arabic.go a1 l else if j = 2 then ml l else if j = 3 then gs0 l else if j = 4 then sg l else if j = 5 then mr l else weak_latin.go a1 l
theorem ap_len (j : Nat) (a1 : Int) (l : List Int) : (ap j a1 l).length = l.length := by
  unfold ap
  repeat' split
  · exact gm_len l a1
  · exact weak_arabic.go_len l a1
  · simp [ml]
  · exact gs0_len l
  · exact sg_len l
  · simp [mr]
  · exact weak_latin.go_len l a1
theorem app_f (k j : Nat) (l : List Int) (a1 : Int) (hm : l.length < 17592186044416) (hk : l.length < k) : weak_rules.app k j l a1 = some (ap j a1 l) := by
  unfold weak_rules.app ap
  rw [marks_f k l a1 hm hk, arabic_f l a1 hm, letters_f k l a1 hm hk, single_f k l a1 hm hk, signs_f l a1 hm, rest_f k l a1 hm hk, latin_f l a1 hm]
  repeat' split
  all_goals rfl
/-- All rules. -/
def all (a1 : Int) (l : List Int) : List Int := ap 6 a1 (ap 5 a1 (ap 4 a1 (ap 3 a1 (ap 2 a1 (ap 1 a1 (ap 0 a1 l))))))
theorem all_len (a1 : Int) (l : List Int) : (all a1 l).length = l.length := by
  unfold all
  simp only [ap_len]
theorem resolve_f (k : Nat) (l : List Int) (a1 : Int) (hm : l.length < 17592186044416) (hk : l.length + 2 < k) :
    weak_Resolve.f k l a1 = some (if wrong l a1 = 0 then (all a1 l, 0) else ([], wrong l a1)) := by
  unfold weak_Resolve.f
  rw [may_f k l a1 hm hk, Option.bind_some]
  split
  · rename_i h
    have e : weak_Resolve.all k l a1 = some (all a1 l) := by
      have A : ∀ j q, q.length = l.length → weak_rules.app k j q a1 = some (ap j a1 q) := fun j q hq => app_f k j q a1 (by omega) (by omega)
      unfold weak_Resolve.all
      have h0 := A 0 l rfl
      have h1 := A 1 (ap 0 a1 l) (by simp only [ap_len])
      have h2 := A 2 (ap 1 a1 (ap 0 a1 l)) (by simp only [ap_len])
      have h3 := A 3 (ap 2 a1 (ap 1 a1 (ap 0 a1 l))) (by simp only [ap_len])
      have h4 := A 4 (ap 3 a1 (ap 2 a1 (ap 1 a1 (ap 0 a1 l)))) (by simp only [ap_len])
      have h5 := A 5 (ap 4 a1 (ap 3 a1 (ap 2 a1 (ap 1 a1 (ap 0 a1 l))))) (by simp only [ap_len])
      have h6 := A 6 (ap 5 a1 (ap 4 a1 (ap 3 a1 (ap 2 a1 (ap 1 a1 (ap 0 a1 l)))))) (by simp only [ap_len])
      exact Option.bind_eq_some_iff.mpr ⟨_, h0, Option.bind_eq_some_iff.mpr ⟨_, h1, Option.bind_eq_some_iff.mpr ⟨_, h2, Option.bind_eq_some_iff.mpr ⟨_, h3, Option.bind_eq_some_iff.mpr ⟨_, h4, Option.bind_eq_some_iff.mpr ⟨_, h5, Option.bind_eq_some_iff.mpr ⟨_, h6, rfl⟩⟩⟩⟩⟩⟩⟩
    rw [e]
    rfl
  · rfl
theorem step_f (k : Nat) (l : List Int) (a1 a2 : Int) (hm : l.length < 17592186044416) (hk : l.length + 2 < k) :
    weak_Step.f k l a1 a2 = some (if (a1 = 1 ∨ a1 = 2) ∧ (a2 < 1 ∨ 7 < a2) then ([], 2) else if wrong l a1 = 0 then (ap (a2 - 1).toNat a1 l, 0) else ([], wrong l a1)) := by
  unfold weak_Step.f
  rw [may_f k l a1 hm hk, Option.bind_some]
  split
  · rfl
  · split
    · rename_i h
      have ha : a1 = 1 ∨ a1 = 2 := by
        unfold wrong at h
        split at h
        · assumption
        · cases h
      rw [if_pos ⟨hm, ha⟩, app_f k _ l a1 hm (by omega)]
      rfl
    · rfl
end Go.Proofs.Ytckajjoliiefdaa.K
