/- Layer 9 in plain Lean: what stands behind all rules. -/
import Derived.Test.YtckajjoliiefdaaPWx14
import Derived.Test.YtckajjoliiefdaaPWx19
import Derived.Test.YtckajjoliiefdaaPWx9
import Derived.Test.YtckajjoliiefdaaK3
namespace Go.Proofs.Ytckajjoliiefdaa.K
open Go.RowKit Go.Proofs.Ytckajjoliiefdaa.PW Go.Proofs.YtckajjoliiefdaaW.PrintWords Go.Proofs.YtckajjoliiefdaaW.PrintLast

def res (a1 : Int) (l : List Int) : List Int × Int := if wrong l a1 = 0 then (all a1 l, 0) else ([], wrong l a1)
theorem res_len (a1 : Int) (l : List Int) : (res a1 l).1.length ≤ l.length := by
  unfold res
  split
  · exact Nat.le_of_eq (all_len a1 l)
  · simp
def stp (a1 a2 : Int) (l : List Int) : List Int × Int := if (a1 = 1 ∨ a1 = 2) ∧ (a2 < 1 ∨ 7 < a2) then ([], 2) else if wrong l a1 = 0 then (ap (a2 - 1).toNat a1 l, 0) else ([], wrong l a1)
theorem stp_len (a1 a2 : Int) (l : List Int) : (stp a1 a2 l).1.length ≤ l.length := by
  unfold stp
  repeat' split
  · simp
  · exact Nat.le_of_eq (ap_len _ a1 l)
  · simp
theorem works_f (k : Nat) (hk : 30 < k) : colophonlaw09_works.f k = some true := by
  have r1 : weak_Resolve.f k [3, 4] 1 = some ([2, 7], 0) := by rw [resolve_f k _ _ (by decide) (by simp; omega)]; rfl
  have r2 : weak_Resolve.f k [6, 6, 4] 2 = some ([4, 4, 4], 0) := by rw [resolve_f k _ _ (by decide) (by simp; omega)]; rfl
  have r3 : weak_Resolve.f k [4, 8, 4] 1 = some ([1, 1, 1], 0) := by rw [resolve_f k _ _ (by decide) (by simp; omega)]; rfl
  unfold colophonlaw09_works.f
  rw [r1, Option.bind_some, r2, Option.bind_some, r3, Option.bind_some, if_pos rfl, if_pos rfl, if_pos rfl, ints_f k _ (by decide) (by simp; omega), Option.bind_some, if_pos rfl, ints_f k _ (by decide) (by simp; omega), Option.bind_some, if_pos rfl,
    ints_f k _ (by decide) (by simp; omega), Option.bind_some]

/-! ### place by place -/
theorem ap1_at (a1 : Int) (l : List Int) (i : Nat) (h : i < l.length) : at_ (ap 1 a1 l) i = at_ l i ∨ (at_ l i = 4 ∧ at_ (ap 1 a1 l) i = 7) := by
  have := arabic_at l a1 i h
  show at_ (weak_arabic.go a1 l) i = _ ∨ _ ∧ at_ (weak_arabic.go a1 l) i = _
  rw [this]
  split
  · rename_i h; exact .inr ⟨h.1, rfl⟩
  · exact .inl rfl
theorem ap2_at (a1 : Int) (l : List Int) (i : Nat) (h : i < l.length) : (at_ l i ≠ 3 → at_ (ap 2 a1 l) i = at_ l i) ∧ (at_ l i = 3 → at_ (ap 2 a1 l) i = 2) := by
  have := ml_at l i h
  show (_ → at_ (ml l) i = _) ∧ (_ → at_ (ml l) i = _)
  rw [this]
  exact ⟨fun h => if_neg h, fun h => if_pos h⟩
theorem ap3_at (a1 : Int) (l : List Int) (i : Nat) (h : i < l.length) : at_ (ap 3 a1 l) i = at_ l i ∨ ((at_ l i = 5 ∨ at_ l i = 8) ∧ (at_ (ap 3 a1 l) i = 4 ∨ at_ (ap 3 a1 l) i = 7)) := by
  have := gs0_at l i h
  show at_ (gs0 l) i = _ ∨ _ ∧ (at_ (gs0 l) i = _ ∨ at_ (gs0 l) i = _)
  rw [this]
  unfold sgl
  repeat' split
  all_goals omega
theorem ap4_at (a1 : Int) (l : List Int) (i : Nat) (h : i < l.length) : at_ (ap 4 a1 l) i = at_ l i ∨ (at_ l i = 6 ∧ at_ (ap 4 a1 l) i = 4) := by
  have := sg_at l i h
  show at_ (sg l) i = _ ∨ _ ∧ at_ (sg l) i = _
  rw [this]
  unfold S
  split
  · rename_i h; exact .inr ⟨h.1, rfl⟩
  · exact .inl rfl
theorem ap5_at (a1 : Int) (l : List Int) (i : Nat) (h : i < l.length) : ((at_ l i = 5 ∨ at_ l i = 6 ∨ at_ l i = 8) → at_ (ap 5 a1 l) i = 14) ∧ (¬ (at_ l i = 5 ∨ at_ l i = 6 ∨ at_ l i = 8) → at_ (ap 5 a1 l) i = at_ l i) := by
  have := mr_at l i h
  show (_ → at_ (mr l) i = _) ∧ (_ → at_ (mr l) i = _)
  rw [this]
  exact ⟨fun h => if_pos h, fun h => if_neg h⟩
theorem ap6_at (a1 : Int) (l : List Int) (i : Nat) (h : i < l.length) : at_ (ap 6 a1 l) i = at_ l i ∨ (at_ l i = 4 ∧ at_ (ap 6 a1 l) i = 1) := by
  have := latin_at l a1 i h
  show at_ (weak_latin.go a1 l) i = _ ∨ _ ∧ at_ (weak_latin.go a1 l) i = _
  rw [this]
  split
  · rename_i h; exact .inr ⟨h.1, rfl⟩
  · exact .inl rfl
theorem gm_ok : ∀ (l : List Int) (a : Int), okT a → a ≠ 9 → (∀ x ∈ l, okT x) → ∀ y ∈ gm a l, okT y ∧ y ≠ 9
  | [], _, _, _, _, y, h => by simp [gm] at h
  | x :: q, a, ha, h9, hl, y, h => by
    have hx := hl x (by simp)
    have key : okT (if x = 9 then (if a ≥ 20 then 14 else a) else x) ∧ (if x = 9 then (if a ≥ 20 then 14 else a) else x) ≠ 9 := by
      repeat' split
      · exact ⟨by unfold okT; omega, by omega⟩
      · exact ⟨ha, h9⟩
      · exact ⟨hx, by assumption⟩
    simp only [gm, List.mem_cons] at h
    rcases h with h | h
    · rw [h]
      exact key
    · exact gm_ok q _ key.1 key.2 (fun x hx => hl x (by simp [hx])) y h
theorem ap0_at (a1 : Int) (l : List Int) (i : Nat) (h : i < l.length) : at_ l i ≠ 9 → at_ (ap 0 a1 l) i = at_ l i := by
  have := gm_at l a1 i h
  show _ → at_ (gm a1 l) i = _
  rw [this]
  exact fun h => if_neg h
theorem mem_at {l : List Int} {x : Int} (h : x ∈ l) : ∃ i, i < l.length ∧ at_ l i = x := by
  obtain ⟨i, hi, e⟩ := List.mem_iff_getElem.mp h
  exact ⟨i, hi, by simp [at_, hi, e]⟩
theorem ok1 {a1 : Int} (ha : a1 = 1 ∨ a1 = 2) : okT a1 := by unfold okT; omega
/-- What may be stays what may be. -/
theorem ap_ok (j : Nat) (hj : j < 7) (a1 : Int) (ha : a1 = 1 ∨ a1 = 2) (l : List Int) (hl : ∀ x ∈ l, okT x) : ∀ x ∈ ap j a1 l, okT x := by
  intro x hx
  by_cases h0 : j = 0
  · subst h0
    exact (gm_ok l a1 (ok1 ha) (by omega) hl x hx).1
  · obtain ⟨i, hi, e⟩ := mem_at hx
    rw [ap_len] at hi
    have ho := hl _ (at_mem hi)
    rw [← e]
    unfold okT at ho ⊢
    have h7 : j = 1 ∨ j = 2 ∨ j = 3 ∨ j = 4 ∨ j = 5 ∨ j = 6 := by omega
    rcases h7 with rfl | rfl | rfl | rfl | rfl | rfl
    · have := ap1_at a1 l i hi; omega
    · have := ap2_at a1 l i hi; omega
    · have := ap3_at a1 l i hi; omega
    · have := ap4_at a1 l i hi; omega
    · have := ap5_at a1 l i hi; omega
    · have := ap6_at a1 l i hi; omega
theorem wrong_ok {l : List Int} {a1 : Int} (ha : a1 = 1 ∨ a1 = 2) (hl : ∀ x ∈ l, okT x) : wrong l a1 = 0 := by
  unfold wrong
  rw [if_pos ha, if_pos hl]
theorem all_ok (a1 : Int) (ha : a1 = 1 ∨ a1 = 2) (l : List Int) (hl : ∀ x ∈ l, okT x) : ∀ x ∈ all a1 l, okT x := by
  unfold all
  exact ap_ok 6 (by omega) a1 ha _ (ap_ok 5 (by omega) a1 ha _ (ap_ok 4 (by omega) a1 ha _ (ap_ok 3 (by omega) a1 ha _ (ap_ok 2 (by omega) a1 ha _ (ap_ok 1 (by omega) a1 ha _ (ap_ok 0 (by omega) a1 ha l hl))))))
theorem keep_ne (x : Int) (h : x = 1 ∨ x = 2 ∨ x ≥ 11) : x ≠ 9 ∧ x ≠ 4 ∧ x ≠ 3 ∧ x ≠ 5 ∧ x ≠ 8 ∧ x ≠ 6 := by omega
theorem all_at (a1 : Int) (ha : a1 = 1 ∨ a1 = 2) (l : List Int) (hl : ∀ x ∈ l, okT x) (i : Nat) (h : i < l.length) :
    at_ (all a1 l) i ≠ 9 ∧ at_ (all a1 l) i ≠ 3 ∧ at_ (all a1 l) i ≠ 5 ∧ at_ (all a1 l) i ≠ 6 ∧ at_ (all a1 l) i ≠ 8 ∧ ((at_ l i = 1 ∨ at_ l i = 2 ∨ at_ l i ≥ 11) → at_ (all a1 l) i = at_ l i) := by
  unfold all
  have h0 := ap0_at a1 l i h
  have h9 := (gm_ok l a1 (ok1 ha) (by omega) hl (at_ (ap 0 a1 l) i) (at_mem (l := ap 0 a1 l) (by rw [ap_len]; exact h))).2
  obtain ⟨l1, e1⟩ : ∃ q, q = ap 0 a1 l := ⟨_, rfl⟩
  have n1 : l1.length = l.length := by rw [e1, ap_len]
  rw [← e1] at h0 h9 ⊢
  have h1 := ap1_at a1 l1 i (by omega)
  obtain ⟨l2, e2⟩ : ∃ q, q = ap 1 a1 l1 := ⟨_, rfl⟩
  have n2 : l2.length = l.length := by rw [e2, ap_len, n1]
  rw [← e2] at h1 ⊢
  have h2 := ap2_at a1 l2 i (by omega)
  obtain ⟨l3, e3⟩ : ∃ q, q = ap 2 a1 l2 := ⟨_, rfl⟩
  have n3 : l3.length = l.length := by rw [e3, ap_len, n2]
  rw [← e3] at h2 ⊢
  have h3 := ap3_at a1 l3 i (by omega)
  obtain ⟨l4, e4⟩ : ∃ q, q = ap 3 a1 l3 := ⟨_, rfl⟩
  have n4 : l4.length = l.length := by rw [e4, ap_len, n3]
  rw [← e4] at h3 ⊢
  have h4 := ap4_at a1 l4 i (by omega)
  obtain ⟨l5, e5⟩ : ∃ q, q = ap 4 a1 l4 := ⟨_, rfl⟩
  have n5 : l5.length = l.length := by rw [e5, ap_len, n4]
  rw [← e5] at h4 ⊢
  have h5 := ap5_at a1 l5 i (by omega)
  obtain ⟨l6, e6⟩ : ∃ q, q = ap 5 a1 l5 := ⟨_, rfl⟩
  have n6 : l6.length = l.length := by rw [e6, ap_len, n5]
  rw [← e6] at h5 ⊢
  have h6 := ap6_at a1 l6 i (by omega)
  generalize at_ (ap 6 a1 l6) i = x7 at *
  generalize at_ l6 i = x6 at *
  generalize at_ l5 i = x5 at *
  generalize at_ l4 i = x4 at *
  generalize at_ l3 i = x3 at *
  generalize at_ l2 i = x2 at *
  generalize at_ l1 i = x1 at *
  generalize at_ l i = x0 at *
  clear e1 e2 e3 e4 e5 e6
  clear n1 n2 n3 n4 n5 n6 hl ha h
  have g2 : x2 ≠ 9 := by clear h0 h2 h3 h4 h5 h6; omega
  have g3 : x3 ≠ 9 ∧ x3 ≠ 3 := by clear h0 h1 h3 h4 h5 h6; omega
  have g4 : x4 ≠ 9 ∧ x4 ≠ 3 := by clear h0 h1 h2 h4 h5 h6; omega
  have g5 : x5 ≠ 9 ∧ x5 ≠ 3 := by clear h0 h1 h2 h3 h5 h6; omega
  have g6 : x6 ≠ 9 ∧ x6 ≠ 3 ∧ x6 ≠ 5 ∧ x6 ≠ 6 ∧ x6 ≠ 8 := by
    clear h0 h1 h2 h3 h4 h6
    by_cases c : x5 = 5 ∨ x5 = 6 ∨ x5 = 8
    · have := h5.1 c
      rw [this]
      decide
    · have := h5.2 c
      rw [this]
      exact ⟨g5.1, g5.2, fun h => c (.inl h), fun h => c (.inr (.inl h)), fun h => c (.inr (.inr h))⟩
  have g7 : x7 ≠ 9 ∧ x7 ≠ 3 ∧ x7 ≠ 5 ∧ x7 ≠ 6 ∧ x7 ≠ 8 := by
    rcases h6 with h | h
    · rw [h]; exact g6
    · rw [h.2]; decide
  refine ⟨g7.1, g7.2.1, g7.2.2.1, g7.2.2.2.1, g7.2.2.2.2, fun hk => ?_⟩
  obtain ⟨n9, n4, n3, n5, n8, n6⟩ := keep_ne x0 hk
  have k1 : x1 = x0 := h0 n9
  have k2 : x2 = x0 := by
    rcases h1 with h | h
    · exact h.trans k1
    · exact absurd (k1.symm.trans h.1) n4
  have k3 : x3 = x0 := (h2.1 (fun e => n3 (k2.symm.trans e))).trans k2
  have k4 : x4 = x0 := by
    rcases h3 with h | h
    · exact h.trans k3
    · rcases h.1 with e | e
      · exact absurd (k3.symm.trans e) n5
      · exact absurd (k3.symm.trans e) n8
  have k5 : x5 = x0 := by
    rcases h4 with h | h
    · exact h.trans k4
    · exact absurd (k4.symm.trans h.1) n6
  have k6 : x6 = x0 := (h5.2 (fun c => by
    rcases c with e | e | e
    · exact absurd (k5.symm.trans e) n5
    · exact absurd (k5.symm.trans e) n6
    · exact absurd (k5.symm.trans e) n8)).trans k5
  rcases h6 with h | h
  · exact h.trans k6
  · exact absurd (k6.symm.trans h.1) n4

/-! ### twice -/
theorem at_ext (l r : List Int) (hl : l.length = r.length) (h : ∀ i, i < l.length → at_ l i = at_ r i) : l = r := by
  refine List.ext_getElem hl (fun i h1 h2 => ?_)
  have := h i h1
  simpa [at_, h1, h2] using this
theorem ls_mem (s : Int) : ∀ (l : List Int), ls s l = s ∨ ls s l ∈ l := by
  intro l
  induction l generalizing s with
  | nil => exact .inl rfl
  | cons x q ih =>
    have : ls s (x :: q) = ls (if x = 1 ∨ x = 2 ∨ x = 3 then x else s) q := rfl
    rw [this]
    rcases ih (if x = 1 ∨ x = 2 ∨ x = 3 then x else s) with h | h
    · rw [h]
      split
      · exact .inr (by simp)
      · exact .inl rfl
    · exact .inr (List.mem_cons_of_mem _ h)
theorem latin_again : ∀ (l : List Int) (s : Int), weak_latin.go s (weak_latin.go s l) = weak_latin.go s l
  | [], _ => rfl
  | x :: q, s => by
    by_cases h : x = 4 ∧ s = 1
    · obtain ⟨rfl, rfl⟩ := h
      have := latin_again q 1
      simpa [weak_latin.go] using this
    · have := latin_again q (if x = 1 ∨ x = 2 ∨ x = 3 then x else s)
      simp only [weak_latin.go, if_neg h, this]
theorem arabic_again : ∀ (l : List Int) (s : Int), weak_arabic.go s (weak_arabic.go s l) = weak_arabic.go s l
  | [], _ => rfl
  | x :: q, s => by
    by_cases h : x = 4 ∧ s = 3
    · obtain ⟨rfl, rfl⟩ := h
      have := arabic_again q 3
      simpa [weak_arabic.go] using this
    · have := arabic_again q (if x = 1 ∨ x = 2 ∨ x = 3 then x else s)
      simp only [weak_arabic.go, if_neg h, this]
theorem ls_arabic : ∀ (l : List Int) (s s2 : Int) (i : Nat), ls s2 ((weak_arabic.go s l).take i) = ls s2 (l.take i)
  | [], _, _, _ => by simp [weak_arabic.go]
  | _ :: _, _, _, 0 => by simp
  | x :: q, s, s2, i + 1 => by
    have h1 : ∀ (y : Int) (l : List Int), ls s2 (y :: l) = ls (if y = 1 ∨ y = 2 ∨ y = 3 then y else s2) l := fun _ _ => rfl
    simp only [weak_arabic.go, List.take_succ_cons, h1]
    have e : (if (if x = 4 ∧ s = 3 then (7 : Int) else x) = 1 ∨ (if x = 4 ∧ s = 3 then (7 : Int) else x) = 2 ∨ (if x = 4 ∧ s = 3 then (7 : Int) else x) = 3 then (if x = 4 ∧ s = 3 then (7 : Int) else x) else s2) = (if x = 1 ∨ x = 2 ∨ x = 3 then x else s2) := by
      by_cases h : x = 4 ∧ s = 3
      · rw [if_pos h, if_neg (by decide), if_neg (by omega)]
      · rw [if_neg h]
    rw [e]
    exact ls_arabic q _ _ i
theorem all_again (a1 : Int) (ha : a1 = 1 ∨ a1 = 2) (l : List Int) (hl : ∀ x ∈ l, okT x) : all a1 (all a1 l) = all a1 l := by
  have hA := all_at a1 ha l hl
  have hn := all_len a1 l
  have h7 : ap 6 a1 (all a1 l) = all a1 l := latin_again _ _
  generalize all a1 l = a at *
  have k0 : ap 0 a1 a = a := at_ext _ _ (ap_len _ _ _) (fun i hi => by
    rw [ap_len] at hi
    exact ap0_at a1 a i hi (hA i (by omega)).1)
  have k1 : ap 1 a1 a = a := at_ext _ _ (ap_len _ _ _) (fun i hi => by
    rw [ap_len] at hi
    have h3 : ls a1 (a.take i) ≠ 3 := by
      intro h3
      rcases ls_mem a1 (a.take i) with h | h
      · omega
      · rw [h3] at h
        obtain ⟨j, hj, e⟩ := mem_at (List.mem_of_mem_take h)
        exact (hA j (by omega)).2.1 e
    have := arabic_at a a1 i hi
    rw [if_neg (fun h => h3 h.2)] at this
    exact this)
  have k2 : ap 2 a1 a = a := at_ext _ _ (ap_len _ _ _) (fun i hi => by
    rw [ap_len] at hi
    exact (ap2_at a1 a i hi).1 (hA i (by omega)).2.1)
  have k3 : ap 3 a1 a = a := at_ext _ _ (ap_len _ _ _) (fun i hi => by
    rw [ap_len] at hi
    have := ap3_at a1 a i hi
    have := hA i (by omega)
    omega)
  have k4 : ap 4 a1 a = a := at_ext _ _ (ap_len _ _ _) (fun i hi => by
    rw [ap_len] at hi
    have := ap4_at a1 a i hi
    have := hA i (by omega)
    omega)
  have k5 : ap 5 a1 a = a := at_ext _ _ (ap_len _ _ _) (fun i hi => by
    rw [ap_len] at hi
    have := hA i (by omega)
    exact (ap5_at a1 a i hi).2 (by omega))
  have e : all a1 a = ap 6 a1 (ap 5 a1 (ap 4 a1 (ap 3 a1 (ap 2 a1 (ap 1 a1 (ap 0 a1 a)))))) := rfl
  rw [e, k0, k1, k2, k3, k4, k5, h7]
end Go.Proofs.Ytckajjoliiefdaa.K
