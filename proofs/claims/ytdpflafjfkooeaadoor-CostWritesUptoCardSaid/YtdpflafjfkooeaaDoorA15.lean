import Derived.Test.YtdpflafjfkooeaaDoorA13
namespace Go.Proofs.YtdpflafjfkooeaaDoorG
open Go Go.RowKit Go.Proofs
set_option linter.unusedSimpArgs false
set_option linter.unusedVariables false
theorem eff_undo_val {s : St} {o : Opn} {c : Ch} (h : effF s o = (c, 0)) (hk : o.kind = 3) : s.undo.getD ((s.undo.length : Int) - 1).toNat noCh = c.inv := by
  have h0 := eff_zero h
  unfold effF at h
  rw [if_neg (by rw [h0]; exact fun h => h rfl), if_neg (by omega), if_neg (by omega), if_pos hk] at h
  split at h <;> simp only [Prod.mk.injEq] at h
  · rw [← h.1]; rfl
  · exfalso; omega
theorem eff_redo_val {s : St} {o : Opn} {c : Ch} (h : effF s o = (c, 0)) (hk : o.kind = 4) : s.redo.getD ((s.redo.length : Int) - 1).toNat noCh = c := by
  have h0 := eff_zero h
  unfold effF at h
  rw [if_neg (by rw [h0]; exact fun h => h rfl), if_neg (by omega), if_neg (by omega), if_neg (by omega), if_pos hk] at h
  split at h <;> simp only [Prod.mk.injEq] at h
  · exact h.1
  · exfalso; omega
end Go.Proofs.YtdpflafjfkooeaaDoorG
