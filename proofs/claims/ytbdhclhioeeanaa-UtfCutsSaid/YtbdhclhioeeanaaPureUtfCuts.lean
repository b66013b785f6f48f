/- UtfCuts: where utf.Cut cuts any bytes, up to any place, is where the document's Cut does. No condition. -/
import Derived.Test.YtbdhclhioeeanaaPUx8
import Derived.Test.YtbdhclhioeeanaaU2
namespace Go.Proofs.Ytbdhclhioeeanaa.Pure
open Go.RowKit Go.Proofs.Ytbdhclhioeeanaa.PU Go.Proofs.YtbdhclhioeeanaaW.PrintWords Go.Proofs.YtbdhclhioeeanaaW.PrintLast Go.Proofs.Ytbdhclhioeeanaa.U

theorem UtfCuts : colophonlaw01_UtfCuts.Pure := by
  intro l0 a1 hm hs hw ha
  have hb : Bytes l0 := fun x hx => wf_u8 (hw x hx)
  have hn := wf_i64 ha
  obtain ⟨r, h1, h2⟩ := cut_eq hb (by omega) a1 hn.1 hn.2 l0.length 0 (l0.length + 14) (l0.length + 14) (by omega) (by omega) (.inr rfl) (by omega) (by omega)
  refine ⟨l0.length + 14, ?_⟩
  unfold colophonlaw01_UtfCuts.f colophonlaw01_names.f utf_Cut.f colophonref01_Cut.f
  simp only [Option.bind_some, if_true, List.nil_append, List.length_nil, Nat.zero_add]
  simp only [Int.natCast_zero] at h1 h2
  rw [if_pos (by omega), h1, h2]
  simp

end Go.Proofs.Ytbdhclhioeeanaa.Pure
