/- UtfReads: what utf.Decode and utf.Count tell of any bytes is what the document's Decode tells; the bytes stay as they are. Condition: what is read is of bulk at most 1048576. -/
import Derived.Test.YtbdhclhioeeanaaWuUtfReads
import Derived.Test.YtbdhclhioeeanaaU3
namespace Go.Proofs.Ytbdhclhioeeanaa.Pure
open Go.RowKit Go.Proofs.Ytbdhclhioeeanaa.PU Go.Proofs.YtbdhclhioeeanaaW.PrintWords Go.Proofs.YtbdhclhioeeanaaW.PrintLast Go.Proofs.Ytbdhclhioeeanaa.U

theorem UtfReadsU : colophonlaw01_UtfReads.PureU := by
  intro l0 hm hs hw hu
  have hb : Bytes l0 := fun x hx => wf_u8 (hw x hx)
  refine ⟨l0.length + 14, ?_⟩
  unfold colophonlaw01_UtfReads.f colophonlaw01_names.f
  simp only [Option.bind_some, List.nil_append, List.length_nil, Nat.zero_add, if_true]
  have hlen : (dec l0).1.length ≤ l0.length := by
    rcases dec_split hb with ⟨m, h1, h2, h3⟩ | ⟨j, h1, h2⟩
    · rw [h3, ← h2]; exact forms_ge h1
    · rw [h2]; simp
  rw [if_pos (by omega), utf_Decode_some hb (by omega) _ (by omega), ref_Decode_some hb (by omega) _ (by omega), utf_Count_some hb (by omega) _ (by omega)]
  simp only [Option.bind_some]
  rw [same_some _ _ _ (by omega) (by omega)]
  simp

end Go.Proofs.Ytbdhclhioeeanaa.Pure
