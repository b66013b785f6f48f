import Derived.Test.YtdpflafjfkooeaaDoorA7
namespace Go.Proofs.YtdpflafjfkooeaaDoorG
open Go Go.RowKit Go.Proofs
set_option linter.unusedSimpArgs false
/-- A state. -/
structure St where
  text : List Int
  undo : List Ch
  redo : List Ch
def St.x (s : St) : X := .p (.agg [.v (.sl 1 (rn s.text)), .v (.sl 3 (chs s.undo)), .v (.sl 3 (chs s.redo))])
/-- A change of a size, of runes. -/
structure Ch.ok (c : Ch) : Prop where
  gone : c.gone.length ≤ 100000
  came : c.came.length ≤ 100000
  rgone : R32s c.gone
  rcame : R32s c.came
theorem Ch.ok.inv {c : Ch} (h : c.ok) : c.inv.ok := ⟨h.2, h.1, h.4, h.3⟩
theorem Ch.ok.small {c : Ch} (h : c.ok) : c.small := ⟨Nat.le_trans h.1 (by omega), Nat.le_trans h.2 (by omega)⟩
structure St.ok (s : St) : Prop where
  len : s.text.length ≤ 100000
  run : R32s s.text
  undo : ∀ c ∈ s.undo, c.ok
  redo : ∀ c ∈ s.redo, c.ok
  ulen : s.undo.length ≤ 100000
  rlen : s.redo.length ≤ 100000
/-- The last n changes of a list, the newest first, may be done one behind the other. -/
def walkN (l : List Ch) : Nat → List Int → Bool
  | 0, _ => true
  | n + 1, t => decide ((l.getD n noCh).good t ∧ ((l.getD n noCh).done t).length ≤ 4096) && walkN l n ((l.getD n noCh).done t)
def rightF (s : St) : Int :=
  if s.text.length > 4096 ∨ s.undo.length + s.redo.length > 16 then 3 else if ¬ scal s.text then 11
  else if (walkN (s.undo.map Ch.inv) s.undo.length s.text && walkN s.redo s.redo.length s.text) = false then 50 else 0
theorem getD_inv (l : List Ch) (n : Nat) : (l.map Ch.inv).getD n noCh = (l.getD n noCh).inv := by
  simp only [List.getD, List.getElem?_map]
  cases l[n]? <;> rfl
theorem R32s.take {l : List Int} (h : R32s l) (n : Nat) : R32s (l.take n) := fun x hx => h x (List.mem_of_mem_take hx)
theorem R32s.drop {l : List Int} (h : R32s l) (n : Nat) : R32s (l.drop n) := fun x hx => h x (List.mem_of_mem_drop hx)
theorem R32s.app {a b : List Int} (h : R32s a) (h' : R32s b) : R32s (a ++ b) := fun x hx => by
  rcases List.mem_append.1 hx with h1 | h1
  · exact h x h1
  · exact h' x h1
theorem R32s.done {c : Ch} {t : List Int} (h : R32s t) (h' : R32s c.came) : R32s (c.done t) := ((h.take _).app h').app (h.drop _)
theorem walk_step (l : List Ch) (m : Nat) (t : List Int) : walkN l (m + 1) t = (decide ((l.getD m noCh).good t ∧ ((l.getD m noCh).done t).length ≤ 4096) && walkN l m (if (l.getD m noCh).good t then (l.getD m noCh).done t else [])) := by
  simp only [walkN]
  by_cases h : (l.getD m noCh).good t
  · rw [if_pos h]
  · rw [decide_eq_false (fun h' => h h'.1)]; simp
theorem Ch.good.fits' {c : Ch} {t : List Int} (h : c.good t) : c.fits t := h.2.2
theorem refDone_ok' (t : List Int) (c : Ch) (ht : t.length ≤ 100000) (hc : c.ok) : CallOk Tryd.prog 47 [sl (rn t), c.x]
    (.tup [.one (.sr 0), .one (.v (.raw (.bool (decide (c.good t ∧ (c.done t).length ≤ 4096)))))]) [(21, 1, rn (if c.good t then c.done t else []))] true :=
  refDone_ok t c (by omega) (Nat.le_trans hc.gone (by omega)) (Nat.le_trans hc.came (by omega)) hc.rgone hc.rcame
theorem walk_len {c : Ch} {t : List Int} (h : decide (c.good t ∧ (c.done t).length ≤ 4096) = true) : (if c.good t then c.done t else []).length ≤ 100000 := by
  have h := of_decide_eq_true h
  rw [if_pos h.1]; omega
theorem drop_getD {l : List Ch} {k : Nat} (h : k < l.length) : l.drop k = l.getD k noCh :: l.drop (k + 1) := by
  rw [List.drop_eq_getElem_cons h]; simp [List.getD, List.getElem?_eq_getElem h]
end Go.Proofs.YtdpflafjfkooeaaDoorG
