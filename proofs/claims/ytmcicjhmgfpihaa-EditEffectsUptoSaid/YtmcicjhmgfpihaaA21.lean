/- A21: what is done to a state that may be is one: in plain Lean. -/
import Derived.Test.YtmcicjhmgfpihaaA17
namespace Go.Proofs.YtmcicjhmgfpihaaG
open Go Go.RowKit Go.Proofs
set_option linter.unusedSimpArgs false
set_option linter.unusedVariables false
theorem inv_inv (c : Ch) : c.inv.inv = c := rfl
theorem scal_app {a b : List Int} (ha : scal a) (hb : scal b) : scal (a ++ b) := fun i hi => by
  by_cases h : i < a.length
  · have := ha i h
    simpa [List.getD, List.getElem?_append, h] using this
  · have := hb (i - a.length) (by simp at hi; omega)
    simpa [List.getD, List.getElem?_append, h] using this
theorem scal_take {a : List Int} (ha : scal a) (n : Nat) : scal (a.take n) := fun i hi => by
  simp at hi
  have := ha i (by omega)
  simpa [List.getD, List.getElem?_take, show i < n by omega] using this
theorem scal_drop {a : List Int} (ha : scal a) (n : Nat) : scal (a.drop n) := fun i hi => by
  simp at hi
  have := ha (n + i) (by omega)
  simpa [List.getD, List.getElem?_drop] using this
theorem scal_done {c : Ch} {t : List Int} (hc : c.good t) (ht : scal t) : scal (c.done t) := scal_app (scal_app (scal_take ht _) hc.2.1) (scal_drop ht _)
/-- A change and its inverse. -/
theorem undone {c : Ch} {t : List Int} (h : c.good t) : c.inv.good (c.done t) ∧ c.inv.done (c.done t) = t := by
  obtain ⟨s1, s2, f1, f2, f3, f4⟩ := h
  obtain ⟨a, ha⟩ : ∃ a : Nat, c.at_ = a := ⟨c.at_.toNat, by omega⟩
  have e1 : c.at_.toNat = a := by omega
  have e2 : (c.at_ + (c.gone.length : Int)).toNat = a + c.gone.length := by omega
  have e3 : (c.at_ + (c.came.length : Int)).toNat = a + c.came.length := by omega
  have hla : (t.take a).length = a := by rw [List.length_take]; omega
  have hlen : (c.done t).length = t.length - c.gone.length + c.came.length := Ch.done_len ⟨f1, f2, f3, f4⟩
  have hd : (c.done t).drop a = c.came ++ t.drop (a + c.gone.length) := by
    unfold Ch.done
    rw [e1, e2, List.append_assoc, List.drop_append_of_le_length (by omega), List.drop_of_length_le (by omega), List.nil_append]
  have hf : c.inv.fits (c.done t) := by
    refine ⟨f1, ?_, ?_, ?_⟩
    · show c.at_ ≤ _; omega
    · show (c.came.length : Int) ≤ _ - c.at_; omega
    · show ((c.done t).drop c.at_.toNat).take c.came.length = c.came
      rw [e1, hd, List.take_left']
      rfl
  refine ⟨⟨s2, s1, hf⟩, ?_⟩
  show (c.done t).take c.at_.toNat ++ c.gone ++ (c.done t).drop (c.at_ + (c.came.length : Int)).toNat = t
  rw [e1, e3]
  have h1 : (c.done t).take a = t.take a := by
    unfold Ch.done
    rw [e1, List.append_assoc, List.take_append_of_le_length (by omega), List.take_take, Nat.min_self]
  have h2 : (c.done t).drop (a + c.came.length) = t.drop (a + c.gone.length) := by
    rw [← List.drop_drop, hd, List.drop_left']
    rfl
  rw [h1, h2]
  rw [e1] at f4
  conv => rhs; rw [← List.take_append_drop a t]
  rw [List.append_assoc]
  congr 1
  conv => rhs; rw [← List.take_append_drop c.gone.length (t.drop a)]
  rw [f4, List.drop_drop]
theorem getD_app {l : List Ch} {x : Ch} : (l ++ [x]).getD l.length noCh = x := by simp [List.getD]
theorem getD_app_lt {l r : List Ch} {k : Nat} (h : k < l.length) : (l ++ r).getD k noCh = l.getD k noCh := by simp [List.getD, List.getElem?_append, h]
theorem walk_app {l r : List Ch} : ∀ {n : Nat} {t : List Int}, n ≤ l.length → walkN (l ++ r) n t = walkN l n t
  | 0, _, _ => rfl
  | n + 1, t, h => by simp only [walkN]; rw [getD_app_lt (by omega), walk_app (by omega)]
theorem walk_snoc {l : List Ch} {x : Ch} {t : List Int} : walkN (l ++ [x]) (l.length + 1) t = (decide (x.good t ∧ (x.done t).length ≤ 4096) && walkN l l.length (x.done t)) := by
  simp only [walkN]; rw [getD_app, walk_app (Nat.le_refl _)]
theorem walk_take {l : List Ch} {m : Nat} : ∀ {n : Nat} {t : List Int}, n ≤ m → walkN (l.take m) n t = walkN l n t
  | 0, _, _ => rfl
  | n + 1, t, h => by
    have e : (l.take m).getD n noCh = l.getD n noCh := by simp [List.getD, List.getElem?_take, show n < m by omega]
    simp only [walkN]; rw [e, walk_take (by omega)]
theorem walk_drop {l : List Ch} : ∀ {n : Nat} {t : List Int}, walkN l (n + 1) t = true → walkN (l.drop 1) n t = true
  | 0, _, _ => rfl
  | n + 1, t, h => by
    rw [walkN, Bool.and_eq_true] at h
    have e : (l.drop 1).getD n noCh = l.getD (n + 1) noCh := by simp [List.getD, List.getElem?_drop, Nat.add_comm]
    rw [walkN, e, Bool.and_eq_true]
    exact ⟨h.1, walk_drop h.2⟩
theorem right_of {s : St} (h1 : s.text.length ≤ 4096) (h2 : s.undo.length + s.redo.length ≤ 16) (h3 : scal s.text) (h4 : walkN (s.undo.map Ch.inv) s.undo.length s.text = true) (h5 : walkN s.redo s.redo.length s.text = true) : rightF s = 0 := by
  unfold rightF
  rw [if_neg (by omega), if_neg (fun h => h h3), if_neg (by rw [h4, h5]; simp)]
end Go.Proofs.YtmcicjhmgfpihaaG
