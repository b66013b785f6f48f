/- A24: behind an Undo, an insertion; what changes in number. -/
import Derived.Test.YtmcicjhmgfpihaaA23
namespace Go.Proofs.YtmcicjhmgfpihaaG
open Go Go.RowKit Go.Proofs
set_option linter.unusedSimpArgs false
set_option linter.unusedVariables false
def insO : Opn := ⟨1, 0, 0, [121]⟩
/-- An insertion at a text's begin. -/
theorem app_insO {s : St} (h : rightF s = 0) : (appF s insO).2 = 3 ∧ s.text.length = 4096 ∨ (appF s insO).2 = 0 ∧ (appF s insO).1.redo = [] := by
  obtain ⟨z1, z2, z3, z4, z5⟩ := right_zero h
  have he : effF s insO = insF s.text insO := by
    unfold effF
    rw [if_neg (fun h' => h' h), if_pos (show insO.kind = 1 from rfl)]
  have hsc : scal insO.text := by decide
  by_cases hl : s.text.length = 4096
  · left
    have hi : insF s.text insO = (noCh, 3) := by
      unfold insF
      rw [if_neg (by simp [insO]), if_neg (fun h => h hsc), if_neg (by simp [insO]), if_pos (by simp [insO]; omega)]
    refine ⟨?_, hl⟩
    unfold appF
    rw [he, hi, if_pos (by simp)]
  · right
    have hi : insF s.text insO = (⟨0, [], [121]⟩, 0) := by
      unfold insF
      rw [if_neg (by simp [insO]), if_neg (fun h => h hsc), if_neg (by simp [insO]), if_neg (by simp [insO]; omega)]
      rfl
    unfold appF
    rw [he, hi, if_neg (by simp), if_neg (by simp [insO]), if_neg (by simp [insO])]
    exact ⟨rfl, rfl⟩
/-- An operation that is done, and is an insertion or a deletion, leaves its change as the newest. -/
theorem app_new {s : St} {o : Opn} {c : Ch} (h : effF s o = (c, 0)) (h3 : o.kind ≠ 3) (h4 : o.kind ≠ 4) : (appF s o).2 = 0 ∧ (appF s o).1.redo = [] ∧ 0 < (appF s o).1.undo.length ∧ (appF s o).1.undo.getD ((appF s o).1.undo.length - 1) noCh = c ∧ (appF s o).1.text = c.done s.text := by
  unfold appF
  rw [h, if_neg (fun h' => h' rfl), if_neg h3, if_neg h4]
  refine ⟨rfl, rfl, ?_, ?_, rfl⟩
  · show 0 < (if _ then _ else _ : List Ch).length
    split <;> simp <;> omega
  · show (if s.undo.length + 1 > 16 then (s.undo ++ [c]).drop 1 else s.undo ++ [c]).getD ((if s.undo.length + 1 > 16 then (s.undo ++ [c]).drop 1 else s.undo ++ [c]).length - 1) noCh = c
    split
    · rename_i hl
      simp only [List.length_drop, List.length_append, List.length_cons, List.length_nil, List.getD, List.getElem?_drop]
      rw [show 1 + (s.undo.length + (0 + 1) - 1 - 1) = s.undo.length by omega]
      simp
    · simp [List.getD]
end Go.Proofs.YtmcicjhmgfpihaaG
