/- UtfWrites: what utf.Encode tells of any numbers is what the document's Encode tells, and the list stays as it is. No condition. -/
import Derived.Test.YtbdhclhioeeanaaPUx4
import Derived.Test.YtbdhclhioeeanaaU1
namespace Go.Proofs.Ytbdhclhioeeanaa.Pure
open Go.RowKit Go.Proofs.Ytbdhclhioeeanaa.PU Go.Proofs.YtbdhclhioeeanaaW.PrintWords Go.Proofs.YtbdhclhioeeanaaW.PrintLast Go.Proofs.Ytbdhclhioeeanaa.U

theorem UtfWrites : colophonlaw01_UtfWrites.Pure := by
  intro l0 hm hs hw
  have h : ∀ r ∈ l0, -2147483648 ≤ r ∧ r ≤ 2147483647 := fun r hr => wf_i32 (hw r hr)
  refine ⟨6 * l0.length + 2, ?_⟩
  unfold colophonlaw01_UtfWrites.f colophonlaw01_names.f
  simp only [Option.bind_some, List.nil_append, List.length_nil, Nat.zero_add]
  rw [if_pos (by omega), utf_Encode_some l0 _ (by omega) (by omega), ref_Encode_some l0 _ (by omega) h (by omega), same_some l0 l0 _ (by omega) (by omega)]
  simp

end Go.Proofs.Ytbdhclhioeeanaa.Pure
