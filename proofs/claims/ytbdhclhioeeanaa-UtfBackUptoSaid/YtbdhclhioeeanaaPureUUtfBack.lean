/- UtfBack: what utf.Encode writes is read back by utf.Decode, and a text is written from what it is read as, and from nothing else. Condition: what is read is of bulk at most 1048576. -/
import Derived.Test.YtbdhclhioeeanaaWuUtfBack
import Derived.Test.YtbdhclhioeeanaaU3
namespace Go.Proofs.Ytbdhclhioeeanaa.Pure
open Go.RowKit Go.Proofs.Ytbdhclhioeeanaa.PU Go.Proofs.YtbdhclhioeeanaaW.PrintWords Go.Proofs.YtbdhclhioeeanaaW.PrintLast Go.Proofs.Ytbdhclhioeeanaa.U

theorem UtfBackU : colophonlaw01_UtfBack.PureU := by
  intro l0 l1 hm0 hs0 hw0 hm1 hs1 hw1 hu0 hu1
  have hb : Bytes l1 := fun x hx => wf_u8 (hw1 x hx)
  have hj : ∀ k, 6 * l1.length + 40 ≤ k → colophonlaw01_UtfBack.j0 k l1 = some true := by
    intro k hk
    obtain ⟨k, rfl⟩ : ∃ m, k = m + 1 := ⟨k - 1, by omega⟩
    rw [colophonlaw01_UtfBack.j0, utf_Decode_some hb (by omega) _ (by omega)]
    simp only [Option.bind_some]
    rcases dec_split hb with ⟨m, h1, h2, h3⟩ | ⟨j, h1, h2⟩
    · have hl := forms_ge h1
      rw [h2] at hl
      rw [h3]
      simp only [if_true]
      rw [utf_Encode_some m _ (by omega) (by omega), enc_good m [] 0 h1]
      simp [h2]
    · rw [h2]; simp
  refine ⟨6 * l0.length + 6 * l1.length + 41, ?_⟩
  unfold colophonlaw01_UtfBack.f
  rw [works_some _ (by omega)]
  simp only [Option.bind_some, if_true]
  rw [utf_Encode_some l0 _ (by omega) (by omega)]
  simp only [Option.bind_some]
  by_cases hg : Gd l0
  · have hf := forms_len l0
    rw [enc_good l0 [] 0 hg]
    simp only [if_true, List.nil_append]
    rw [utf_Decode_some (forms_byte l0) (by omega) _ (by omega), dec_enc hg]
    simp only [Option.bind_some, if_true]
    rw [same_some _ _ _ (by omega) (by omega)]
    simp only [Option.bind_some, decide_true, if_true]
    exact hj _ (by omega)
  · rw [if_neg (fun h => hg ((enc_code l0).mp h))]
    exact hj _ (by omega)

end Go.Proofs.Ytbdhclhioeeanaa.Pure
