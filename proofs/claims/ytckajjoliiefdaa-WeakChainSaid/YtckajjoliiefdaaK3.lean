/- Layer 9 in plain Lean: each of the code's rules is the document's. -/
import Derived.Test.YtckajjoliiefdaaPWx12
import Derived.Test.YtckajjoliiefdaaPWx13
import Derived.Test.YtckajjoliiefdaaPWx17
import Derived.Test.YtckajjoliiefdaaPWx6
import Derived.Test.YtckajjoliiefdaaPWx8
import Derived.Test.YtckajjoliiefdaaK2
namespace Go.Proofs.Ytckajjoliiefdaa.K
open Go.RowKit Go.Proofs.Ytckajjoliiefdaa.PW Go.Proofs.YtckajjoliiefdaaW.PrintWords Go.Proofs.YtckajjoliiefdaaW.PrintLast

/-! ### the fifth rule, place by place -/
def S (t : List Int) (p : Nat) : Int := if at_ t p = 6 ∧ (le t (p + 1) = 4 ∨ re (t.drop p) = 4) then 4 else at_ t p
theorem drop_at (t : List Int) (i : Nat) (h : i < t.length) : t.drop i = at_ t i :: t.drop (i + 1) := by
  rw [List.drop_eq_getElem_cons h]
  simp [at_, h]
theorem at_drop (t : List Int) (i m : Nat) : at_ (t.drop i) m = at_ t (i + m) := by simp [at_, List.getD]
theorem le_run (t : List Int) (i b : Nat) (h : ∀ p, i ≤ p → p < b → at_ t p = 6) : ∀ p, i ≤ p → p ≤ b → le t p = le t i := by
  intro p
  induction p with
  | zero =>
    intro h1 _
    have : i = 0 := by omega
    subst this
    rfl
  | succ p ih =>
    intro h1 h2
    by_cases he : i = p + 1
    · rw [he]
    · rw [le, if_pos (h p (by omega) (by omega))]
      exact ih (by omega) (by omega)
theorem re_run (t : List Int) (i b : Nat) (h : ∀ p, i ≤ p → p < b → at_ t p = 6) (hb : b ≤ t.length) : ∀ (d p : Nat), p + d = b → i ≤ p → re (t.drop p) = re (t.drop b) := by
  intro d
  induction d with
  | zero =>
    intro p h1 _
    have : p = b := by omega
    rw [this]
  | succ d ih =>
    intro p h1 h2
    rw [drop_at t p (by omega), re, if_pos (h p h2 (by omega))]
    exact ih (p + 1) (by omega) (by omega)
theorem run_spec : ∀ (q : List Int), (∀ m, m < weak_signs.run q → at_ q m = 6) ∧ (weak_signs.run q = q.length ∨ at_ q (weak_signs.run q) ≠ 6)
  | [] => ⟨fun m h => by simp [weak_signs.run] at h, .inl (by simp [weak_signs.run])⟩
  | x :: q => by
    obtain ⟨h1, h2⟩ := run_spec q
    by_cases hx : x = 6
    · have e : weak_signs.run (x :: q) = weak_signs.run q + 1 := by simp [weak_signs.run, hx]
      rw [e]
      refine ⟨fun m hm => ?_, ?_⟩
      · cases m with
        | zero => simpa using hx
        | succ m => simpa using h1 m (by omega)
      · rcases h2 with h2 | h2
        · left; simp [h2]
        · right; simpa using h2
    · have e : weak_signs.run (x :: q) = 0 := by simp [weak_signs.run, hx]
      rw [e]
      exact ⟨fun m hm => by omega, .inr (by simpa using hx)⟩
theorem fill_at (xs : List Int) (a b p : Nat) (h : a ≤ b) (hb : b ≤ xs.length) : at_ (weak_signs.fill xs a b) p = if a ≤ p ∧ p < b then 4 else at_ xs p := by
  have l1 : (xs.take a).length = a := by simp; omega
  have l2 : (xs.take a ++ List.replicate (b - a) (4 : Int)).length = b := by simp; omega
  unfold weak_signs.fill
  simp only [at_, List.getD_eq_getElem?_getD]
  by_cases h1 : p < a
  · rw [if_neg (by omega), List.getElem?_append_left (by omega), List.getElem?_append_left (by omega), List.getElem?_take, if_pos h1]
  · by_cases h2 : p < b
    · rw [if_pos (by omega), List.getElem?_append_left (by omega), List.getElem?_append_right (by omega), List.getElem?_replicate, if_pos (by omega)]
      rfl
    · rw [if_neg (by omega), List.getElem?_append_right (by omega), l2, List.getElem?_drop]
      congr 2
      omega
theorem cond_iff (t : List Int) (a b : Nat) : weak_signs.cond t a b = true ↔ (0 < a ∧ at_ t (a - 1) = 4) ∨ (b < t.length ∧ at_ t b = 4) := by
  unfold weak_signs.cond
  rw [Bool.or_eq_true, Bool.and_eq_true, Bool.and_eq_true, decide_eq_true_eq, decide_eq_true_eq, beq_iff_eq, beq_iff_eq, rd_at]
  by_cases h : 0 < a
  · rw [rd_at' t (a - 1) _ (by omega)]
  · simp [h]
theorem outer_at (t : List Int) : ∀ (d i : Nat) (xs : List Int), xs.length = t.length → t.length + 1 ≤ d + i → (∀ p, p < i → p < t.length → at_ xs p = S t p) → (∀ p, i ≤ p → at_ xs p = at_ t p) →
    (i ≤ t.length → i = 0 ∨ at_ t (i - 1) ≠ 6) → ∀ p, p < t.length → at_ (weak_signs.outer d t i xs) p = S t p := by
  intro d
  induction d with
  | zero =>
    intro i xs hl hd h1 h2 h3 p hp
    exact h1 p (by omega) hp
  | succ d ih =>
    intro i xs hl hd h1 h2 h3 p hp
    unfold weak_signs.outer
    by_cases hi : i < t.length
    · rw [if_pos hi]
      obtain ⟨r1, r2⟩ := run_spec (t.drop i)
      have r3 := run_le (t.drop i)
      generalize weak_signs.run (t.drop i) = r at *
      simp only [List.length_drop] at r2 r3
      have q1 : ∀ p, i ≤ p → p < i + r → at_ t p = 6 := fun p ha hb => by
        have := r1 (p - i) (by omega)
        rw [at_drop] at this
        rwa [show i + (p - i) = p by omega] at this
      rw [at_drop] at r2
      have q2 : i + r < t.length → at_ t (i + r) ≠ 6 := fun h => by
        rcases r2 with r2 | r2
        · omega
        · exact r2
      have hle : le t i = if 0 < i then at_ t (i - 1) else 0 := by
        cases i with
        | zero => rfl
        | succ i =>
          rcases h3 (by omega) with h | h
          · omega
          · simp only [Nat.add_sub_cancel] at h ⊢
            rw [le, if_neg h, if_pos (by omega)]
      have hre : re (t.drop (i + r)) = if i + r < t.length then at_ t (i + r) else 0 := by
        split
        · rename_i h
          rw [drop_at t _ h, re, if_neg (q2 h)]
        · rw [List.drop_eq_nil_of_le (by omega)]
          rfl
      have hc := cond_iff t i (i + r)
      have hS : ∀ p, i ≤ p → p < i + r → S t p = if weak_signs.cond t i (i + r) = true then 4 else 6 := fun p ha hb => by
        unfold S
        rw [q1 p ha hb, le_run t i (i + r) q1 (p + 1) (by omega) (by omega), re_run t i (i + r) q1 (by omega) (i + r - p) p (by omega) ha, hle, hre]
        by_cases hcc : weak_signs.cond t i (i + r) = true
        · rw [if_pos hcc, if_pos]
          refine ⟨rfl, ?_⟩
          rcases hc.mp hcc with h | h
          · left; rw [if_pos h.1]; exact h.2
          · right; rw [if_pos h.1]; exact h.2
        · rw [if_neg hcc, if_neg]
          intro ⟨_, h⟩
          apply hcc
          apply hc.mpr
          rcases h with h | h
          · left
            split at h
            · rename_i h0; exact ⟨h0, h⟩
            · omega
          · right
            split at h
            · rename_i h0; exact ⟨h0, h⟩
            · omega
      have hE : i + r < t.length → S t (i + r) = at_ t (i + r) := fun h => by
        unfold S
        rw [if_neg (fun hh => q2 h hh.1)]
      apply ih (i + r + 1) _ ?_ (by omega) ?_ ?_ (fun h => .inr (by simpa using q2 (by omega))) p hp
      · split
        · rw [weak_signs.fill_len _ _ _ (by omega) (by omega)]; exact hl
        · exact hl
      · intro p ha hb
        split
        · rename_i hcc
          rw [fill_at xs i (i + r) p (by omega) (by omega)]
          split
          · rename_i hpp
            rw [hS p hpp.1 hpp.2, if_pos hcc.2]
          · by_cases hpi : p < i
            · exact h1 p hpi hb
            · have : p = i + r := by omega
              subst this
              rw [hE hb]
              exact h2 _ (by omega)
        · rename_i hcc
          by_cases hpi : p < i
          · exact h1 p hpi hb
          · by_cases hpe : p = i + r
            · subst hpe
              rw [hE hb]
              exact h2 _ (by omega)
            · rw [hS p (by omega) (by omega), if_neg (fun h => hcc ⟨by omega, h⟩), h2 p (by omega)]
              exact q1 p (by omega) (by omega)
      · intro p ha
        split
        · rw [fill_at xs i (i + r) p (by omega) (by omega), if_neg (by omega)]
          exact h2 p (by omega)
        · exact h2 p (by omega)
    · rw [if_neg hi]
      exact h1 p (by omega) hp
theorem sg_at (t : List Int) (i : Nat) (h : i < t.length) : at_ (sg t) i = S t i :=
  outer_at t _ 0 t rfl (by omega) (fun p h => by omega) (fun p _ => rfl) (fun _ => .inl rfl) i h

/-! ### one, rule by rule -/
theorem gm_le (l : List Int) (a : Int) (ha : a ≤ 19) (h : ∀ x ∈ l, x ≤ 23) : ∀ i, i < l.length → at_ (gm a l) i ≤ 23 := by
  intro i
  induction i with
  | zero =>
    intro hi
    have := h _ (at_mem hi)
    rw [gm_at l a 0 hi, if_pos rfl]
    unfold mk
    repeat' split
    all_goals omega
  | succ i ih =>
    intro hi
    have h1 := h _ (at_mem hi)
    have h2 := ih (by omega)
    rw [gm_at l a (i + 1) hi, if_neg (by omega)]
    simp only [Nat.add_sub_cancel]
    unfold mk
    repeat' split
    all_goals omega
theorem rd_take (R : List Int) (i : Nat) (hR : i < R.length) (hm : R.length < 17592186044416) (h : 0 < i) : rd (R.take i) (wrap64 ((i : Int) - 1)) = at_ R (i - 1) ∧ 0 ≤ wrap64 ((i : Int) - 1) ∧ wrap64 ((i : Int) - 1) < ((R.take i).length : Int) := by
  rw [wrap_in (by omega) (by omega)]
  refine ⟨?_, by omega, by rw [List.length_take]; omega⟩
  rw [rd_at' (R.take i) (i - 1) _ (by omega)]
  exact at_take R i (i - 1) (by omega)
section
set_option linter.unusedSectionVars false
variable (k : Nat) (t : List Int) (a1 : Int) (i : Nat) (hm : t.length < 17592186044416) (hi : i < t.length) (hk : t.length + 3 < k)
include hm hi hk
theorem one_0 (ha : a1 = 1 ∨ a1 = 2) (hT : ∀ x ∈ t, okT x) : colophonref09_one.f k t ((gm a1 t).take i) a1 1 (i : Int) = some (at_ (gm a1 t) i) := by
  have hl := gm_len t a1
  unfold colophonref09_one.f
  rw [if_pos (by omega), if_pos (by omega), if_pos rfl, rd_at, gm_at t a1 i hi]
  unfold mk
  by_cases h9 : at_ t i = 9
  · rw [if_pos h9, if_pos h9]
    by_cases h0 : i = 0
    · rw [if_pos (by omega), if_pos h0, if_neg (by omega)]
    · obtain ⟨e1, e2, e3⟩ := rd_take (gm a1 t) i (by omega) (by omega) (by omega)
      have hb := gm_le t a1 (by omega) (fun x hx => (hT x hx).2.1) (i - 1) (by omega)
      rw [if_neg (by omega), if_pos e2, if_pos e3, e1, if_neg h0]
      repeat' split
      all_goals first | rfl | omega
  · rw [if_neg h9, if_neg h9]
theorem one_1 : colophonref09_one.f k t ((weak_arabic.go a1 t).take i) a1 2 (i : Int) = some (at_ (weak_arabic.go a1 t) i) := by
  unfold colophonref09_one.f
  rw [if_pos (by omega), if_pos (by omega), if_neg (by decide), if_pos rfl, rd_at, arabic_at t a1 i hi, strong_f k t a1 i hm (by omega) (by omega)]
  by_cases h1 : at_ t i = 4
  · rw [if_pos h1, Option.bind_some]
    by_cases h2 : ls a1 (t.take i) = 3
    · rw [if_pos h2, if_pos ⟨h1, h2⟩]
    · rw [if_neg h2, if_neg (fun h => h2 h.2)]
  · rw [if_neg h1, if_neg (fun h => h1 h.1)]
theorem one_2 : colophonref09_one.f k t ((ml t).take i) a1 3 (i : Int) = some (at_ (ml t) i) := by
  unfold colophonref09_one.f
  rw [if_pos (by omega), if_pos (by omega), if_neg (by decide), if_neg (by decide), if_pos rfl, rd_at, ml_at t i hi]
  split <;> rfl
theorem one_3 : colophonref09_one.f k t ((gs0 t).take i) a1 4 (i : Int) = some (at_ (gs0 t) i) := by
  have hl := gs0_len t
  obtain ⟨k, rfl⟩ : ∃ k', k = k' + 1 := ⟨k - 1, by omega⟩
  unfold colophonref09_one.f
  rw [if_pos (by omega), if_pos (by omega), if_neg (by decide), if_neg (by decide), if_neg (by decide), if_pos rfl, rd_at, gs0_at t i hi]
  have w : wrap64 ((i : Int) + 1) = (i : Int) + 1 := wrap_in (by omega) (by omega)
  rw [w]
  by_cases h0 : 0 < i
  · rw [if_pos (by omega)]
    by_cases h1 : i + 1 < t.length
    · obtain ⟨e1, e2, e3⟩ := rd_take (gs0 t) i (by omega) (by omega) h0
      rw [if_pos (by omega), if_pos e2, if_pos e3, if_pos (by omega), e1, if_pos ⟨h0, h1⟩, rd_at' t (i + 1) _ (by omega), colophonref09_one.j0, w, rd_at' t (i + 1) _ (by omega)]
      generalize at_ (gs0 t) (i - 1) = p
      generalize at_ t i = x
      generalize at_ t (i + 1) = y
      have g1 : (0 : Int) ≤ (i : Int) + 1 := by omega
      have g2 : (i : Int) + 1 < (t.length : Int) := by omega
      unfold sgl
      simp only [if_pos g1, if_pos g2, beq_iff_eq]
      repeat' split
      all_goals first | rfl | (congr 1; omega) | omega
    · rw [if_neg (by omega), if_neg (by omega), colophonref09_one.j0, if_neg (by decide)]
  · rw [if_neg (by omega), if_neg (by omega), colophonref09_one.j0, if_neg (by decide)]
theorem one_4 : colophonref09_one.f k t ((sg t).take i) a1 5 (i : Int) = some (at_ (sg t) i) := by
  unfold colophonref09_one.f
  have e1 : colophonref09_edge.f k t (i : Int) (-1) = some (le t (i + 1)) := edge_le t hm (i + 1) k i (by omega) (by omega) (by omega)
  have e2 : colophonref09_edge.f k t (i : Int) 1 = some (re (t.drop i)) := edge_re t hm (t.length - i) i k i rfl (by omega) (by omega)
  rw [if_pos (by omega), if_pos (by omega), if_neg (by decide), if_neg (by decide), if_neg (by decide), if_neg (by decide), if_pos rfl, rd_at, sg_at t i hi, e1, e2]
  unfold S
  by_cases h1 : at_ t i = 6
  · rw [if_pos h1, Option.bind_some, Option.bind_some]
    by_cases h2 : le t (i + 1) = 4
    · rw [if_pos h2, if_pos ⟨h1, .inl h2⟩]
    · rw [if_neg h2]
      by_cases h3 : re (t.drop i) = 4
      · rw [if_pos h3, if_pos ⟨h1, .inr h3⟩]
      · rw [if_neg h3, if_neg (fun h => by rcases h.2 with h | h <;> contradiction)]
  · rw [if_neg h1, if_neg (fun h => h1 h.1)]
theorem one_5 : colophonref09_one.f k t ((mr t).take i) a1 6 (i : Int) = some (at_ (mr t) i) := by
  unfold colophonref09_one.f
  rw [if_pos (by omega), if_pos (by omega), if_neg (by decide), if_neg (by decide), if_neg (by decide), if_neg (by decide), if_neg (by decide), if_pos rfl, rd_at, mr_at t i hi]
  repeat' split
  all_goals first | rfl | omega
theorem one_6 : colophonref09_one.f k t ((weak_latin.go a1 t).take i) a1 7 (i : Int) = some (at_ (weak_latin.go a1 t) i) := by
  unfold colophonref09_one.f
  rw [if_pos (by omega), if_pos (by omega), if_neg (by decide), if_neg (by decide), if_neg (by decide), if_neg (by decide), if_neg (by decide), if_neg (by decide), if_pos rfl, rd_at, latin_at t a1 i hi, strong_f k t a1 i hm (by omega) (by omega)]
  by_cases h1 : at_ t i = 4
  · rw [if_pos h1, Option.bind_some]
    by_cases h2 : ls a1 (t.take i) = 1
    · rw [if_pos h2, if_pos ⟨h1, h2⟩]
    · rw [if_neg h2, if_neg (fun h => h2 h.2)]
  · rw [if_neg h1, if_neg (fun h => h1 h.1)]
end
/-- Every rule of the code is the document's. -/
theorem rule_f (j k : Nat) (t : List Int) (a1 : Int) (x : Int) (hx : x = j + 1) (hj : j < 7) (hm : t.length < 17592186044416) (hk : t.length + t.length + 5 < k) (ha : a1 = 1 ∨ a1 = 2) (hT : j = 0 → ∀ x ∈ t, okT x) :
    colophonref09_Rule.f k t a1 x = some (ap j a1 t) := by
  refine Rule_of k t (ap j a1 t) a1 x hm (ap_len j a1 t) (fun k i hi hk => ?_) hk
  have hj' : j = 0 ∨ j = 1 ∨ j = 2 ∨ j = 3 ∨ j = 4 ∨ j = 5 ∨ j = 6 := by omega
  rcases hj' with rfl | rfl | rfl | rfl | rfl | rfl | rfl
  · rw [show x = 1 by omega]; exact one_0 k t a1 i hm hi hk ha (hT rfl)
  · rw [show x = 2 by omega]; exact one_1 k t a1 i hm hi hk
  · rw [show x = 3 by omega]; exact one_2 k t a1 i hm hi hk
  · rw [show x = 4 by omega]; exact one_3 k t a1 i hm hi hk
  · rw [show x = 5 by omega]; exact one_4 k t a1 i hm hi hk
  · rw [show x = 6 by omega]; exact one_5 k t a1 i hm hi hk
  · rw [show x = 7 by omega]; exact one_6 k t a1 i hm hi hk
theorem wrong_zero {l : List Int} {a1 : Int} (h : wrong l a1 = 0) : (a1 = 1 ∨ a1 = 2) ∧ ∀ x ∈ l, okT x := by
  unfold wrong at h
  split at h
  · rename_i ha
    refine ⟨ha, ?_⟩
    split at h
    · assumption
    · cases h
  · cases h
theorem refResolve_l0 (k : Nat) (t : List Int) (a1 : Int) (hm : t.length < 17592186044416) (hk : t.length + t.length + 15 < k) (ha : a1 = 1 ∨ a1 = 2) (hT : ∀ x ∈ t, okT x) :
    colophonref09_Resolve.l0 k t a1 1 = some (all a1 t, 0) := by
  have st : ∀ (j k : Nat) (q : List Int) (x : Int), x = j + 1 → j < 7 → q.length = t.length → t.length + t.length + 5 < k → (j = 0 → ∀ x ∈ q, okT x) →
      colophonref09_Resolve.l0 (k + 1) q a1 x = colophonref09_Resolve.l0 k (ap j a1 q) a1 (x + 1) := fun j k q x hx hj hq hk hT => by
    rw [colophonref09_Resolve.l0, if_pos (by omega), rule_f j k q a1 x hx hj (by omega) (by omega) ha hT, Option.bind_some, wrap_in (by omega) (by omega)]
  obtain ⟨k, rfl⟩ : ∃ k', k = k' + 8 := ⟨k - 8, by omega⟩
  rw [st 0 (k + 7) t (1) (by decide) (by omega) rfl (by omega) (fun _ => hT),
    st 1 (k + 6) _ (1 + 1) (by decide) (by omega) (by simp only [ap_len]) (by omega) (fun h => by omega),
    st 2 (k + 5) _ (1 + 1 + 1) (by decide) (by omega) (by simp only [ap_len]) (by omega) (fun h => by omega),
    st 3 (k + 4) _ (1 + 1 + 1 + 1) (by decide) (by omega) (by simp only [ap_len]) (by omega) (fun h => by omega),
    st 4 (k + 3) _ (1 + 1 + 1 + 1 + 1) (by decide) (by omega) (by simp only [ap_len]) (by omega) (fun h => by omega),
    st 5 (k + 2) _ (1 + 1 + 1 + 1 + 1 + 1) (by decide) (by omega) (by simp only [ap_len]) (by omega) (fun h => by omega),
    st 6 (k + 1) _ (1 + 1 + 1 + 1 + 1 + 1 + 1) (by decide) (by omega) (by simp only [ap_len]) (by omega) (fun h => by omega),
    colophonref09_Resolve.l0, if_neg (by decide)]
  rfl
theorem refResolve_f (k : Nat) (t : List Int) (a1 : Int) (hm : t.length < 17592186044416) (hk : t.length + t.length + 15 < k) :
    colophonref09_Resolve.f k t a1 = some (if wrong t a1 = 0 then (all a1 t, 0) else ([], wrong t a1)) := by
  unfold colophonref09_Resolve.f
  rw [wrong_f k t a1 hm (by omega), Option.bind_some]
  split
  · rename_i h
    exact refResolve_l0 k t a1 hm hk (wrong_zero h).1 (wrong_zero h).2
  · rfl
theorem refStep_f (k : Nat) (t : List Int) (a1 a2 : Int) (hm : t.length < 17592186044416) (hk : t.length + t.length + 15 < k) :
    colophonref09_Step.f k t a1 a2 = some (if (a1 = 1 ∨ a1 = 2) ∧ (a2 < 1 ∨ 7 < a2) then ([], 2) else if wrong t a1 = 0 then (ap (a2 - 1).toNat a1 t, 0) else ([], wrong t a1)) := by
  obtain ⟨k, rfl⟩ : ∃ k', k = k' + 1 := ⟨k - 1, by omega⟩
  have hj : ∀ b : Bool, colophonref09_Step.j0 (k + 1) t a1 a2 b = if b = true then some ([], 2) else if wrong t a1 = 0 then (colophonref09_Rule.f k t a1 a2).bind (fun q => some (q, 0)) else some ([], 50) := fun b => by
    rw [colophonref09_Step.j0, wrong_f k t a1 hm (by omega), Option.bind_some]
  have e : colophonref09_Step.f (k + 1) t a1 a2 = colophonref09_Step.j0 (k + 1) t a1 a2 (decide (¬ (a1 = 1 ∨ a1 = 2) ∨ a2 < 1 ∨ 7 < a2)) := by
    unfold colophonref09_Step.f
    repeat' split
    all_goals (congr 1; first | exact (decide_eq_true (by omega)).symm | exact decide_eq_decide.mpr (by omega))
  rw [e, hj]
  by_cases ha : a1 = 1 ∨ a1 = 2
  · by_cases hs : a2 < 1 ∨ 7 < a2
    · rw [if_pos (decide_eq_true (.inr hs)), if_pos ⟨ha, hs⟩]
    · rw [if_neg (by simp only [decide_eq_true_eq]; omega), if_neg (show ¬ ((a1 = 1 ∨ a1 = 2) ∧ (a2 < 1 ∨ 7 < a2)) from fun h => hs h.2)]
      by_cases hw : wrong t a1 = 0
      · rw [if_pos hw, if_pos hw, rule_f (a2 - 1).toNat k t a1 a2 (by omega) (by omega) hm (by omega) ha (fun _ => (wrong_zero hw).2)]
        rfl
      · rw [if_neg hw, if_neg hw]
        have h50 : wrong t a1 = 50 := by
          unfold wrong at hw ⊢
          rw [if_pos ha] at hw ⊢
          split at hw
          · exact absurd rfl hw
          · rename_i h
            rw [if_neg h]
        rw [h50]
  · have hw : wrong t a1 = 2 := by
      unfold wrong
      rw [if_neg ha]
    rw [if_pos (decide_eq_true (.inl ha)), if_neg (show ¬ ((a1 = 1 ∨ a1 = 2) ∧ (a2 < 1 ∨ 7 < a2)) from fun h => ha h.1), hw, if_neg (by decide)]

/-! ### rows alike -/
theorem ints_l0 (l : List Int) (hm : l.length < 17592186044416) : ∀ (d i k : Nat) (x : Int), x = i → i + d = l.length → d < k → colophonref01_Ints.l0 k l l x = some true := by
  intro d
  induction d with
  | zero =>
    intro i k x hx hi hk
    obtain ⟨k, rfl⟩ : ∃ k', k = k' + 1 := ⟨k - 1, by omega⟩
    rw [colophonref01_Ints.l0, if_neg (by omega)]
  | succ d ih =>
    intro i k x hx hi hk
    obtain ⟨k, rfl⟩ : ∃ k', k = k' + 1 := ⟨k - 1, by omega⟩
    rw [colophonref01_Ints.l0, if_pos (by omega), if_pos (by omega), if_pos (by omega), if_pos rfl]
    exact ih (i + 1) k _ (by rw [wrap_in (by omega) (by omega)]; omega) (by omega) (by omega)
theorem ints_f (k : Nat) (l : List Int) (hm : l.length < 17592186044416) (hk : l.length < k) : colophonref01_Ints.f k l l = some true := by
  unfold colophonref01_Ints.f
  rw [if_pos rfl]
  exact ints_l0 l hm l.length 0 k 0 rfl (by omega) hk
end Go.Proofs.Ytckajjoliiefdaa.K
