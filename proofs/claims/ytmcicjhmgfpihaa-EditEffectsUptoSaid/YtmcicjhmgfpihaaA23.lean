/- A23: there and back. -/
import Derived.Test.YtmcicjhmgfpihaaA22
namespace Go.Proofs.YtmcicjhmgfpihaaG
open Go Go.RowKit Go.Proofs
set_option linter.unusedSimpArgs false
set_option linter.unusedVariables false
def undoO : Opn := ⟨3, 0, 0, []⟩
def redoO : Opn := ⟨4, 0, 0, []⟩
theorem eff_undoO {s : St} (h : rightF s = 0) (hl : 0 < s.undo.length) : effF s undoO = ((s.undo.getD (s.undo.length - 1) noCh).inv, 0) := by
  unfold effF
  rw [if_neg (fun h' => h' h), if_neg (by simp [undoO]), if_neg (by simp [undoO]), if_pos (show undoO.kind = 3 from rfl), if_pos (by omega), show ((s.undo.length : Int) - 1).toNat = s.undo.length - 1 by omega]
theorem eff_redoO {s : St} (h : rightF s = 0) (hl : 0 < s.redo.length) : effF s redoO = (s.redo.getD (s.redo.length - 1) noCh, 0) := by
  unfold effF
  rw [if_neg (fun h' => h' h), if_neg (by simp [redoO]), if_neg (by simp [redoO]), if_neg (by simp [redoO]), if_pos (show redoO.kind = 4 from rfl), if_pos (by omega), show ((s.redo.length : Int) - 1).toNat = s.redo.length - 1 by omega]
theorem app_undoO {s : St} (h : rightF s = 0) (hl : 0 < s.undo.length) : appF s undoO = (⟨(s.undo.getD (s.undo.length - 1) noCh).inv.done s.text, s.undo.take (s.undo.length - 1), s.redo ++ [s.undo.getD (s.undo.length - 1) noCh]⟩, 0) := by
  unfold appF
  rw [eff_undoO h hl, if_neg (fun h' => h' rfl), if_pos (show undoO.kind = 3 from rfl)]
  rfl
theorem app_redoO {s : St} (h : rightF s = 0) (hl : 0 < s.redo.length) : appF s redoO = (⟨(s.redo.getD (s.redo.length - 1) noCh).done s.text, s.undo ++ [s.redo.getD (s.redo.length - 1) noCh], s.redo.take (s.redo.length - 1)⟩, 0) := by
  unfold appF
  rw [eff_redoO h hl, if_neg (fun h' => h' rfl), if_neg (by simp [redoO]), if_pos (show redoO.kind = 4 from rfl)]
/-- Undo, and then Redo, lead back. -/
theorem undo_redo {s : St} (h : rightF s = 0) (hl : 0 < s.undo.length) (hb : rightF (appF s undoO).1 = 0) : appF (appF s undoO).1 redoO = (s, 0) := by
  obtain ⟨z1, z2, z3, z4, z5⟩ := right_zero h
  rw [app_undoO h hl] at hb ⊢
  have hw := walk_head (l := s.undo.map Ch.inv) (by simpa using z4) (by simpa using hl)
  rw [List.length_map, getD_inv] at hw
  have hu := undone hw.1
  rw [inv_inv] at hu
  rw [app_redoO hb (by simp)]
  simp only [List.length_append, List.length_cons, List.length_nil, Nat.add_sub_cancel, getD_app]
  rw [hu.2, ← list_snoc hl, List.take_left']
  rfl
end Go.Proofs.YtmcicjhmgfpihaaG
