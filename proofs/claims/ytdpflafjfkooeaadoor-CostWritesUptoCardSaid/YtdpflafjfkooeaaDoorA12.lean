import Derived.Test.YtdpflafjfkooeaaDoorA11
namespace Go.Proofs.YtdpflafjfkooeaaDoorG
open Go Go.RowKit Go.Proofs
set_option linter.unusedSimpArgs false
set_option linter.unusedVariables false
theorem right_zero {s : St} (h : rightF s = 0) : s.text.length ≤ 4096 ∧ s.undo.length + s.redo.length ≤ 16 ∧ scal s.text ∧ walkN (s.undo.map Ch.inv) s.undo.length s.text = true ∧ walkN s.redo s.redo.length s.text = true := by
  unfold rightF at h
  (repeat' split at h) <;> first | (exfalso; omega) | skip
  rename_i h1 h2 h3
  simp only [Bool.not_eq_false, Bool.and_eq_true] at h3
  exact ⟨by omega, by omega, Classical.not_not.1 h2, h3.1, h3.2⟩
theorem walk_head {l : List Ch} {t : List Int} (h : walkN l l.length t = true) (hl : 0 < l.length) : (l.getD (l.length - 1) noCh).good t ∧ ((l.getD (l.length - 1) noCh).done t).length ≤ 4096 ∧ walkN l (l.length - 1) ((l.getD (l.length - 1) noCh).done t) = true := by
  obtain ⟨m, hm⟩ : ∃ m, l.length = m + 1 := ⟨l.length - 1, by omega⟩
  rw [hm] at h ⊢
  simp only [walkN, Bool.and_eq_true, decide_eq_true_eq] at h
  exact ⟨h.1.1, h.1.2, h.2⟩
theorem eff_zero {s : St} {o : Opn} {c : Ch} (h : effF s o = (c, 0)) : rightF s = 0 := by
  unfold effF at h
  split at h
  · rename_i h1; simp only [Prod.mk.injEq] at h; exact absurd h.2 h1
  · rename_i h1; exact Classical.not_not.1 h1
theorem eff_good {s : St} {o : Opn} {c : Ch} (hs : s.ok) (ho : o.ok) (h : effF s o = (c, 0)) : c.good s.text ∧ c.ok ∧ (c.done s.text).length ≤ 4096 := by
  have hr := right_zero (eff_zero h)
  obtain ⟨r1, r2, r3, r4, r5⟩ := hr
  unfold effF at h
  rw [if_neg (by rw [eff_zero (c := c) (by unfold effF; exact h)]; exact fun h => h rfl)] at h
  have hsc : scal [] := fun i hi => by simp at hi
  split at h
  · unfold insF at h
    (repeat' split at h) <;> simp only [Prod.mk.injEq] at h <;> first | (exfalso; omega) | skip
    rename_i h1 h2 h3 h4
    obtain ⟨rfl, _⟩ := h
    have hf : Ch.fits ⟨o.at_, [], o.text⟩ s.text := ⟨by show 0 ≤ o.at_; omega, by show o.at_ ≤ s.text.length; omega, by simp; omega, by simp⟩
    refine ⟨⟨hsc, Classical.not_not.1 h2, hf⟩, ⟨by simp, ho.len, by intro x hx; simp at hx, ho.run⟩, ?_⟩
    rw [Ch.done_len hf]; simp; omega
  · split at h
    · unfold remF at h
      (repeat' split at h) <;> simp only [Prod.mk.injEq] at h <;> first | (exfalso; omega) | skip
      rename_i h1 h2
      obtain ⟨rfl, _⟩ := h
      have hl : ((s.text.drop o.at_.toNat).take (o.to_ - o.at_).toNat).length = (o.to_ - o.at_).toNat := by simp; omega
      have hf : Ch.fits ⟨o.at_, (s.text.drop o.at_.toNat).take (o.to_ - o.at_).toNat, []⟩ s.text := ⟨by show 0 ≤ o.at_; omega, by show o.at_ ≤ s.text.length; omega, by simp only [hl]; omega, by simp only [hl]⟩
      refine ⟨⟨fun i hi => ?_, hsc, hf⟩, ⟨by simp only [hl]; omega, by simp, (hs.run.drop _).take _, by intro x hx; simp at hx⟩, ?_⟩
      · simp only [hl] at hi
        have := r3 (o.at_.toNat + i) (by omega)
        simpa [List.getD, List.getElem?_take, List.getElem?_drop, hi] using this
      · rw [Ch.done_len hf]; simp only [List.length_nil]; omega
    · split at h
      · split at h
        · rename_i hl
          simp only [Prod.mk.injEq] at h
          obtain ⟨rfl, _⟩ := h
          have := walk_head (l := s.undo.map Ch.inv) (by simpa using r4) (by simp; omega)
          simp only [List.length_map, getD_inv] at this
          rw [show ((s.undo.length : Int) - 1).toNat = s.undo.length - 1 by omega]
          exact ⟨this.1, (hs.undo _ (mem_getD (by omega))).inv, this.2.1⟩
        · simp only [Prod.mk.injEq] at h; exfalso; omega
      · split at h
        · split at h
          · rename_i hl
            simp only [Prod.mk.injEq] at h
            obtain ⟨rfl, _⟩ := h
            have := walk_head r5 (by omega)
            rw [show ((s.redo.length : Int) - 1).toNat = s.redo.length - 1 by omega]
            exact ⟨this.1, hs.redo _ (mem_getD (by omega)), this.2.1⟩
          · simp only [Prod.mk.injEq] at h; exfalso; omega
        · simp only [Prod.mk.injEq] at h; exfalso; omega
/-- What an operation makes of a state. -/
def appF (s : St) (o : Opn) : St × Int :=
  if (effF s o).2 ≠ 0 then (⟨[], [], []⟩, (effF s o).2)
  else if o.kind = 3 then (⟨(effF s o).1.done s.text, s.undo.take (s.undo.length - 1), s.redo ++ [(effF s o).1.inv]⟩, 0)
  else if o.kind = 4 then (⟨(effF s o).1.done s.text, s.undo ++ [(effF s o).1], s.redo.take (s.redo.length - 1)⟩, 0)
  else (⟨(effF s o).1.done s.text, if s.undo.length + 1 > 16 then (s.undo ++ [(effF s o).1]).drop 1 else s.undo ++ [(effF s o).1], []⟩, 0)
theorem eff_undo {s : St} {o : Opn} {c : Ch} (h : effF s o = (c, 0)) (hk : o.kind = 3) : 0 < s.undo.length := by
  have h0 := eff_zero h
  unfold effF at h
  rw [if_neg (by rw [h0]; exact fun h => h rfl), if_neg (by omega), if_neg (by omega), if_pos hk] at h
  split at h
  · omega
  · simp only [Prod.mk.injEq] at h; exfalso; omega
theorem eff_redo {s : St} {o : Opn} {c : Ch} (h : effF s o = (c, 0)) (hk : o.kind = 4) : 0 < s.redo.length := by
  have h0 := eff_zero h
  unfold effF at h
  rw [if_neg (by rw [h0]; exact fun h => h rfl), if_neg (by omega), if_neg (by omega), if_neg (by omega), if_pos hk] at h
  split at h
  · omega
  · simp only [Prod.mk.injEq] at h; exfalso; omega
theorem chs_snoc (l : List Ch) (c : Ch) : chs (l ++ [c]) = chs l ++ [.raw (.int .i64 c.at_), .sl 1 (rn c.gone), .sl 1 (rn c.came)] := by rw [chs_app]; rfl
theorem cnt_snoc (l : List Ch) (a b d : SV) : cnt 3 (chs l ++ [a, b, d]) = l.length + 1 := by
  simp only [cnt, List.length_append, chs_len, List.length_cons, List.length_nil]; omega
theorem cut_snoc (l : List Ch) (a b d : SV) : cutSV 3 (chs l ++ [a, b, d]) 1 ((l.length + 1 : Nat) : Int) = (chs l ++ [a, b, d]).drop 3 := by
  simp only [cutSV]
  rw [show (1 : Int).toNat * 3 = 3 from rfl]
  refine List.take_of_length_le ?_
  simp only [List.length_drop, List.length_append, chs_len, List.length_cons, List.length_nil]; omega
theorem chs_nil : chs [] = [] := rfl
theorem chs_take (l : List Ch) (k : Nat) : chs (l.take k) = (chs l).take (k * 3) := by
  induction l generalizing k with
  | nil => simp [chs]
  | cons c l ih => cases k with
    | zero => simp [chs]
    | succ k => rw [List.take_succ_cons, chs_cons, chs_cons, ih, Nat.succ_mul]; rfl
theorem chs_drop (l : List Ch) (k : Nat) : chs (l.drop k) = (chs l).drop (k * 3) := by
  induction l generalizing k with
  | nil => simp [chs]
  | cons c l ih => cases k with
    | zero => simp [chs]
    | succ k => rw [List.drop_succ_cons, chs_cons, ih, Nat.succ_mul]; rfl
end Go.Proofs.YtdpflafjfkooeaaDoorG
