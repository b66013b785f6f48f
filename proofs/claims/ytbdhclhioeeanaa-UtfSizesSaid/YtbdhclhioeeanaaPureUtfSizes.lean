/- UtfSizes: what utf.Encode and utf.Size tell of a number is what the document's Encode and Size tell. No condition: every number of 32 bits. -/
import Derived.Test.YtbdhclhioeeanaaPUx4
import Derived.Test.YtbdhclhioeeanaaU1
namespace Go.Proofs.Ytbdhclhioeeanaa.Pure
open Go.RowKit Go.Proofs.Ytbdhclhioeeanaa.PU Go.Proofs.YtbdhclhioeeanaaW.PrintWords Go.Proofs.YtbdhclhioeeanaaW.PrintLast Go.Proofs.Ytbdhclhioeeanaa.U

theorem UtfSizes : colophonlaw01_UtfSizes.Pure := by
  intro a0 hw
  have h := wf_i32 hw
  refine ⟨20, ?_⟩
  unfold colophonlaw01_UtfSizes.f colophonlaw01_names.f
  rw [utf_Encode_some [a0] 20 (by simp) (by simp), ref_Encode_some [a0] 20 (by simp) (by simpa using h) (by simp), utf_Size_some _ _ (by omega), ref_Size_some _ _ (by omega) h.1 h.2]
  simp

end Go.Proofs.Ytbdhclhioeeanaa.Pure
