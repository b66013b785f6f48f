/- Layer 9 in plain Lean: the document's answer place by place, and what the code's rules have at each place. -/
import Derived.Test.YtckajjoliiefdaaPWx10
import Derived.Test.YtckajjoliiefdaaPWx11
import Derived.Test.YtckajjoliiefdaaPWx12
import Derived.Test.YtckajjoliiefdaaPWx13
import Derived.Test.YtckajjoliiefdaaPWx17
import Derived.Test.YtckajjoliiefdaaPWx8
import Derived.Test.YtckajjoliiefdaaK1
namespace Go.Proofs.Ytckajjoliiefdaa.K
open Go.RowKit Go.Proofs.Ytckajjoliiefdaa.PW Go.Proofs.YtckajjoliiefdaaW.PrintWords Go.Proofs.YtckajjoliiefdaaW.PrintLast

abbrev at_ (l : List Int) (i : Nat) : Int := l.getD i 0
theorem rd_at (l : List Int) (i : Nat) : rd l (i : Int) = at_ l i := by simp [rd, at_]
theorem rd_at' (l : List Int) (i : Nat) (x : Int) (h : x = i) : rd l x = at_ l i := by rw [h]; exact rd_at l i
theorem take_at (l : List Int) (i : Nat) (h : i < l.length) : l.take i ++ [at_ l i] = l.take (i + 1) := by
  rw [List.take_succ_eq_append_getElem h]
  simp [at_, h]
theorem at_take (l : List Int) (i j : Nat) (h : j < i) : at_ (l.take i) j = at_ l j := by
  simp [at_, List.getD, h]
theorem at_mem {l : List Int} {i : Nat} (h : i < l.length) : at_ l i ∈ l := by
  have : at_ l i = l[i] := by simp [at_, h]
  rw [this]
  exact List.getElem_mem h

/-! ### what may be -/
theorem removed7_eq (x : Int) : colophonref07_Removed.f x = some (decide (x = 10 ∨ 15 ≤ x ∧ x ≤ 19)) := by
  unfold colophonref07_Removed.f
  by_cases h : x = 10
  · subst h
    rfl
  · repeat' split
    all_goals (congr 1; symm; first | (apply decide_eq_true; omega) | (rw [beq_eq_false_iff_ne.mpr h]; apply decide_eq_false; omega))
theorem wrong_l0 : ∀ (q d : List Int) (i : Int) (k : Nat), i = d.length → d.length + q.length < 17592186044416 → q.length < k →
    colophonref09_Wrong.l0 k (d ++ q) i = some (if ∀ x ∈ q, okT x then 0 else 50) := by
  intro q
  induction q with
  | nil =>
    intro d i k hi hm hk
    obtain ⟨k, rfl⟩ : ∃ k', k = k' + 1 := ⟨k - 1, by omega⟩
    rw [colophonref09_Wrong.l0, if_neg (by simp; omega)]
    simp
  | cons x q ih =>
    intro d i k hi hm hk
    simp only [List.length_cons] at hm hk
    obtain ⟨k, rfl⟩ : ∃ k', k = k' + 1 := ⟨k - 1, by omega⟩
    have e3 : rd (d ++ x :: q) i = x := rd_mid' d x q i hi
    have nx : colophonref09_Wrong.l0 k (d ++ x :: q) (wrap64 (i + 1)) = some (if ∀ x ∈ q, okT x then 0 else 50) := by
      have := ih (d ++ [x]) (i + 1) k (by simp; omega) (by simp; omega) (by omega)
      rw [wrap_in (by omega) (by omega)]
      simpa using this
    rw [colophonref09_Wrong.l0, if_pos (by simp; omega), if_pos (by omega), e3, removed7_eq, nx]
    by_cases h1 : x < 1
    · rw [if_pos h1, if_neg (fun h => by have := h x (by simp); unfold okT at this; omega)]
    · rw [if_neg h1]
      by_cases h2 : x > 23
      · rw [if_pos h2, if_neg (fun h => by have := h x (by simp); unfold okT at this; omega)]
      · rw [if_neg h2]
        by_cases h3 : x = 10 ∨ 15 ≤ x ∧ x ≤ 19
        · rw [Option.bind_some, if_pos (decide_eq_true h3), if_neg (fun h => by have := h x (by simp); unfold okT at this; omega)]
        · rw [Option.bind_some, if_neg (by simpa using h3)]
          have hx : okT x := by unfold okT; omega
          congr 1
          by_cases h4 : ∀ x ∈ q, okT x
          · rw [if_pos h4, if_pos (by simpa [hx] using h4)]
          · rw [if_neg h4, if_neg (fun h => h4 (fun y hy => h y (by simp [hy])))]
theorem wrong_f (k : Nat) (l : List Int) (a1 : Int) (hm : l.length < 17592186044416) (hk : l.length + 2 < k) : colophonref09_Wrong.f k l a1 = some (wrong l a1) := by
  obtain ⟨k, rfl⟩ : ∃ k', k = k' + 1 := ⟨k - 1, by omega⟩
  have h := wrong_l0 l [] 0 k (by simp) (by simp; omega) (by omega)
  rw [List.nil_append] at h
  unfold colophonref09_Wrong.f wrong
  by_cases h1 : a1 = 1
  · rw [if_pos h1, if_pos (.inl h1), colophonref09_Wrong.j0, if_neg (by decide), h]
  · rw [if_neg h1]
    by_cases h2 : a1 = 2
    · rw [if_pos (.inr h2), colophonref09_Wrong.j0, if_neg (by simp [h2]), h]
    · rw [if_neg (by omega), colophonref09_Wrong.j0, if_pos (by simp [h2])]

/-! ### ahead, and the edges of a stretch -/
def ls (s : Int) (l : List Int) : Int := l.foldl (fun a x => if x = 1 ∨ x = 2 ∨ x = 3 then x else a) s
theorem strong_l0 (t : List Int) (s : Int) (hm : t.length < 17592186044416) : ∀ (m k : Nat) (x : Int), x = (m : Int) - 1 → m ≤ t.length → m < k → colophonref09_strong.l0 k t s x = some (ls s (t.take m)) := by
  intro m
  induction m with
  | zero =>
    intro k x hx hm' hk
    obtain ⟨k, rfl⟩ : ∃ k', k = k' + 1 := ⟨k - 1, by omega⟩
    rw [colophonref09_strong.l0, if_neg (by omega)]
    rfl
  | succ m ih =>
    intro k x hx hm' hk
    obtain ⟨k, rfl⟩ : ∃ k', k = k' + 1 := ⟨k - 1, by omega⟩
    have e : rd t x = at_ t m := rd_at' t m x (by omega)
    have nx := ih k (wrap64 (x - 1)) (by rw [wrap_in (by omega) (by omega)]; omega) (by omega) (by omega)
    rw [colophonref09_strong.l0, if_pos (by omega), if_pos (by omega), if_pos (by omega), e, nx, ← take_at t m (by omega)]
    simp only [ls, List.foldl_append, List.foldl_cons, List.foldl_nil]
    repeat' split
    all_goals first | rfl | omega
theorem strong_f (k : Nat) (t : List Int) (s : Int) (i : Nat) (hm : t.length < 17592186044416) (hi : i ≤ t.length) (hk : i < k) : colophonref09_strong.f k t s (i : Int) = some (ls s (t.take i)) := by
  unfold colophonref09_strong.f
  exact strong_l0 t s hm i k _ (wrap_in (by omega) (by omega)) hi hk
def le (t : List Int) : Nat → Int
  | 0 => 0
  | m + 1 => if at_ t m = 6 then le t m else at_ t m
def re : List Int → Int
  | [] => 0
  | x :: q => if x = 6 then re q else x
theorem edge_le (t : List Int) (hm : t.length < 17592186044416) : ∀ (m k : Nat) (x : Int), x = (m : Int) - 1 → m ≤ t.length → m < k → colophonref09_edge.l0 k t x (-1) = some (le t m) := by
  intro m
  induction m with
  | zero =>
    intro k x hx hm' hk
    obtain ⟨k, rfl⟩ : ∃ k', k = k' + 1 := ⟨k - 1, by omega⟩
    rw [colophonref09_edge.l0, if_neg (by omega), if_pos (by omega)]
    rfl
  | succ m ih =>
    intro k x hx hm' hk
    obtain ⟨k, rfl⟩ : ∃ k', k = k' + 1 := ⟨k - 1, by omega⟩
    have e : rd t x = at_ t m := rd_at' t m x (by omega)
    have nx := ih k (wrap64 (x + -1)) (by rw [wrap_in (by omega) (by omega)]; omega) (by omega) (by omega)
    rw [colophonref09_edge.l0, if_pos (by omega), if_pos (by omega), if_pos (by omega), e, nx, le]
    split
    · rfl
    · rw [if_neg (by omega), if_neg (by omega)]
theorem edge_re (t : List Int) (hm : t.length < 17592186044416) : ∀ (d m k : Nat) (x : Int), x = (m : Int) → m + d = t.length → d < k → colophonref09_edge.l0 k t x 1 = some (re (t.drop m)) := by
  intro d
  induction d with
  | zero =>
    intro m k x hx hm' hk
    obtain ⟨k, rfl⟩ : ∃ k', k = k' + 1 := ⟨k - 1, by omega⟩
    rw [colophonref09_edge.l0, if_pos (by omega), if_neg (by omega), if_neg (by omega), if_pos (by omega), List.drop_eq_nil_of_le (by omega)]
    rfl
  | succ d ih =>
    intro m k x hx hm' hk
    obtain ⟨k, rfl⟩ : ∃ k', k = k' + 1 := ⟨k - 1, by omega⟩
    have e : rd t x = at_ t m := rd_at' t m x (by omega)
    have nx := ih (m + 1) k (wrap64 (x + 1)) (by rw [wrap_in (by omega) (by omega)]; omega) (by omega) (by omega)
    have hd : t.drop m = at_ t m :: t.drop (m + 1) := by
      rw [List.drop_eq_getElem_cons (by omega)]
      simp [at_, show m < t.length by omega]
    rw [colophonref09_edge.l0, if_pos (by omega), if_pos (by omega), if_pos (by omega), e, nx, hd, re]
    split
    · rfl
    · rw [if_neg (by omega), if_neg (by omega)]

/-! ### what the rules have at a place -/
def mk (a x : Int) : Int := if x = 9 then (if a ≥ 20 then 14 else a) else x
theorem gm_at : ∀ (l : List Int) (a : Int) (i : Nat), i < l.length → at_ (gm a l) i = mk (if i = 0 then a else at_ (gm a l) (i - 1)) (at_ l i)
  | [], _, _, h => by simp at h
  | x :: q, a, 0, _ => by simp [gm, mk]
  | x :: q, a, 1, h => by
    have := gm_at q (mk a x) 0 (by simpa using h)
    simpa [gm, mk] using this
  | x :: q, a, i + 2, h => by
    have := gm_at q (mk a x) (i + 1) (by simp at h; omega)
    simpa [gm, mk] using this
theorem arabic_at : ∀ (l : List Int) (s : Int) (i : Nat), i < l.length → at_ (weak_arabic.go s l) i = if at_ l i = 4 ∧ ls s (l.take i) = 3 then 7 else at_ l i
  | [], _, _, h => by simp at h
  | x :: q, s, 0, _ => by simp [weak_arabic.go, ls]
  | x :: q, s, i + 1, h => by
    have := arabic_at q (if x = 1 ∨ x = 2 ∨ x = 3 then x else s) i (by simpa using h)
    simpa [weak_arabic.go, ls] using this
theorem latin_at : ∀ (l : List Int) (s : Int) (i : Nat), i < l.length → at_ (weak_latin.go s l) i = if at_ l i = 4 ∧ ls s (l.take i) = 1 then 1 else at_ l i
  | [], _, _, h => by simp at h
  | x :: q, s, 0, _ => by simp [weak_latin.go, ls]
  | x :: q, s, i + 1, h => by
    have := latin_at q (if x = 1 ∨ x = 2 ∨ x = 3 then x else s) i (by simpa using h)
    simpa [weak_latin.go, ls] using this
theorem ml_at (l : List Int) (i : Nat) (h : i < l.length) : at_ (ml l) i = if at_ l i = 3 then 2 else at_ l i := by simp [at_, ml, h]
theorem mr_at (l : List Int) (i : Nat) (h : i < l.length) : at_ (mr l) i = if at_ l i = 5 ∨ at_ l i = 6 ∨ at_ l i = 8 then 14 else at_ l i := by simp [at_, mr, h]
theorem gs_at : ∀ (n : Nat) (l : List Int) (p : Int) (i : Nat), l.length ≤ n → i < l.length → at_ (gs p l) i = if i + 1 < l.length then sgl (if i = 0 then p else at_ (gs p l) (i - 1)) (at_ l i) (at_ l (i + 1)) else at_ l i
  | _, [], _, _, _, h => by simp at h
  | _, [x], _, i, _, h => by
    have : i = 0 := by simp at h; omega
    subst this
    simp [gs]
  | 0, _ :: _ :: _, _, _, h, _ => by simp at h
  | n + 1, x :: y :: q, p, 0, _, _ => by simp [gs]
  | n + 1, x :: y :: q, p, 1, hn, h => by
    have := gs_at n (y :: q) (sgl p x y) 0 (by simp at hn ⊢; omega) (by simp)
    simpa [gs] using this
  | n + 1, x :: y :: q, p, i + 2, hn, h => by
    have := gs_at n (y :: q) (sgl p x y) (i + 1) (by simp at hn ⊢; omega) (by simp at h ⊢; omega)
    simpa [gs, show i + 2 < q.length + 1 ↔ i + 1 < q.length by omega] using this
theorem gs0_at (l : List Int) (i : Nat) (h : i < l.length) : at_ (gs0 l) i = if 0 < i ∧ i + 1 < l.length then sgl (at_ (gs0 l) (i - 1)) (at_ l i) (at_ l (i + 1)) else at_ l i := by
  cases l with
  | nil => simp at h
  | cons x q =>
    cases i with
    | zero => simp [gs0]
    | succ i =>
      have := gs_at q.length q x i (Nat.le_refl _) (by simpa using h)
      cases i with
      | zero => simpa [gs0, show 2 < q.length + 1 ↔ 1 < q.length by omega] using this
      | succ i => simpa [gs0] using this

/-! ### the rules by definition -/
theorem Rule_l0 (t R : List Int) (a1 a2 : Int) (hm : t.length < 17592186044416) (hR : R.length = t.length)
    (h1 : ∀ (k i : Nat), i < t.length → t.length + 3 < k → colophonref09_one.f k t (R.take i) a1 a2 (i : Int) = some (at_ R i)) :
    ∀ (m i k : Nat) (x : Int), x = i → i + m = t.length → m + t.length + 5 < k → colophonref09_Rule.l0 k t a1 a2 (R.take i) x = some R := by
  intro m
  induction m with
  | zero =>
    intro i k x hx hi hk
    obtain ⟨k, rfl⟩ : ∃ k', k = k' + 1 := ⟨k - 1, by omega⟩
    rw [colophonref09_Rule.l0, if_neg (by omega), List.take_of_length_le (by omega)]
  | succ m ih =>
    intro i k x hx hi hk
    obtain ⟨k, rfl⟩ : ∃ k', k = k' + 1 := ⟨k - 1, by omega⟩
    rw [colophonref09_Rule.l0, if_pos (by omega), hx, h1 k i (by omega) (by omega), Option.bind_some, if_pos (by rw [List.length_take]; omega), take_at R i (by omega)]
    exact ih (i + 1) k _ (by rw [wrap_in (by omega) (by omega)]; omega) (by omega) (by omega)
theorem Rule_of (k : Nat) (t R : List Int) (a1 a2 : Int) (hm : t.length < 17592186044416) (hR : R.length = t.length)
    (h1 : ∀ (k i : Nat), i < t.length → t.length + 3 < k → colophonref09_one.f k t (R.take i) a1 a2 (i : Int) = some (at_ R i)) (hk : t.length + t.length + 5 < k) : colophonref09_Rule.f k t a1 a2 = some R := by
  have := Rule_l0 t R a1 a2 hm hR h1 t.length 0 k 0 (by simp) (by simp) hk
  exact this
end Go.Proofs.Ytckajjoliiefdaa.K
