/- A22: what Apply leaves may be. -/
import Derived.Test.YtmcicjhmgfpihaaA21
namespace Go.Proofs.YtmcicjhmgfpihaaG
open Go Go.RowKit Go.Proofs
set_option linter.unusedSimpArgs false
set_option linter.unusedVariables false
theorem list_snoc {l : List Ch} (h : 0 < l.length) : l = l.take (l.length - 1) ++ [l.getD (l.length - 1) noCh] := by
  conv => lhs; rw [← List.take_append_drop (l.length - 1) l]
  congr 1
  rw [drop_getD (by omega), List.drop_of_length_le (by omega)]
theorem app_some {s : St} {o : Opn} (h : (appF s o).2 = 0) : ∃ c, effF s o = (c, 0) := by
  have h0 := app_zero h
  exact ⟨(effF s o).1, by rw [← h0]⟩
theorem right_app {s : St} {o : Opn} (hs : s.ok) (ho : o.ok) (h : (appF s o).2 = 0) : rightF (appF s o).1 = 0 := by
  obtain ⟨c, hI⟩ := app_some h
  obtain ⟨g1, g2, g3⟩ := eff_good hs ho hI
  obtain ⟨z1, z2, z3, z4, z5⟩ := right_zero (eff_zero hI)
  obtain ⟨u1, u2⟩ := undone g1
  unfold appF
  rw [hI, if_neg (fun h => h rfl)]
  split
  · rename_i hk
    have hl := eff_undo hI hk
    have hv := eff_undo_val hI hk
    rw [show ((s.undo.length : Int) - 1).toNat = s.undo.length - 1 by omega] at hv
    refine right_of g3 (by simp; omega) (scal_done g1 z3) ?_ ?_
    · have := walk_head (l := s.undo.map Ch.inv) (by simpa using z4) (by simpa using hl)
      rw [List.length_map, getD_inv, hv, inv_inv] at this
      rw [List.map_take, List.length_take, Nat.min_eq_left (by omega), walk_take (Nat.le_refl _)]
      exact this.2.2
    · show walkN (s.redo ++ [c.inv]) (s.redo ++ [c.inv]).length (c.done s.text) = true
      rw [List.length_append, List.length_cons, List.length_nil, walk_snoc, u2, decide_eq_true ⟨u1, z1⟩, z5]; rfl
  · split
    · rename_i hk3 hk
      have hl := eff_redo hI hk
      have hv := eff_redo_val hI hk
      rw [show ((s.redo.length : Int) - 1).toNat = s.redo.length - 1 by omega] at hv
      refine right_of g3 (by simp; omega) (scal_done g1 z3) ?_ ?_
      · show walkN ((s.undo ++ [c]).map Ch.inv) (s.undo ++ [c]).length (c.done s.text) = true
        rw [List.map_append, List.length_append, List.length_cons, List.length_nil]
        have := walk_snoc (l := s.undo.map Ch.inv) (x := c.inv) (t := c.done s.text)
        rw [List.length_map] at this
        show walkN (s.undo.map Ch.inv ++ [c.inv]) (s.undo.length + 1) _ = true
        rw [this, u2, decide_eq_true ⟨u1, z1⟩, z4]; rfl
      · have := walk_head z5 hl
        rw [hv] at this
        show walkN (s.redo.take (s.redo.length - 1)) (s.redo.take (s.redo.length - 1)).length (c.done s.text) = true
        rw [List.length_take, Nat.min_eq_left (by omega), walk_take (Nat.le_refl _)]
        exact this.2.2
    · rename_i hk3 hk4
      have hw : walkN ((s.undo ++ [c]).map Ch.inv) (s.undo.length + 1) (c.done s.text) = true := by
        have := walk_snoc (l := s.undo.map Ch.inv) (x := c.inv) (t := c.done s.text)
        rw [List.length_map] at this
        rw [List.map_append]
        show walkN (s.undo.map Ch.inv ++ [c.inv]) (s.undo.length + 1) _ = true
        rw [this, u2, decide_eq_true ⟨u1, z1⟩, z4]; rfl
      refine right_of g3 ?_ (scal_done g1 z3) ?_ rfl
      · show (if _ then _ else _ : List Ch).length + 0 ≤ 16
        split <;> simp <;> omega
      · show walkN ((if s.undo.length + 1 > 16 then (s.undo ++ [c]).drop 1 else s.undo ++ [c]).map Ch.inv) (if s.undo.length + 1 > 16 then (s.undo ++ [c]).drop 1 else s.undo ++ [c]).length (c.done s.text) = true
        split
        · rw [List.map_drop, List.length_drop, List.length_append, List.length_cons, List.length_nil]
          exact walk_drop hw
        · rw [List.length_append, List.length_cons, List.length_nil]; exact hw
end Go.Proofs.YtmcicjhmgfpihaaG
