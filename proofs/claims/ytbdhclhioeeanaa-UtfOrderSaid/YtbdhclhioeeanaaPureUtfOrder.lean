/- UtfOrder: of two texts' bytes that one is less whose scalar values are. No condition. -/
import Derived.Test.YtbdhclhioeeanaaPUx11
import Derived.Test.YtbdhclhioeeanaaU4
namespace Go.Proofs.Ytbdhclhioeeanaa.Pure
open Go.RowKit Go.Proofs.Ytbdhclhioeeanaa.PU Go.Proofs.YtbdhclhioeeanaaW.PrintWords Go.Proofs.YtbdhclhioeeanaaW.PrintLast Go.Proofs.Ytbdhclhioeeanaa.U

theorem UtfOrder : colophonlaw01_UtfOrder.Pure := by
  intro l0 l1 hm0 hs0 hw0 hm1 hs1 hw1
  have hj : ∀ k x y, 1 ≤ k → colophonlaw01_UtfOrder.j0 k l0 l1 x y true = some true := by
    intro k x y hk
    obtain ⟨k, rfl⟩ : ∃ m, k = m + 1 := ⟨k - 1, by omega⟩
    rw [colophonlaw01_UtfOrder.j0, if_pos rfl]
  refine ⟨6 * l0.length + 6 * l1.length + 43, ?_⟩
  unfold colophonlaw01_UtfOrder.f
  rw [works_some _ (by omega)]
  simp only [Option.bind_some, if_true]
  rw [utf_Encode_some l0 _ (by omega) (by omega), utf_Encode_some l1 _ (by omega) (by omega)]
  simp only [Option.bind_some]
  by_cases h0 : Gd l0
  · by_cases h1 : Gd l1
    · rw [enc_good l0 [] 0 h0, enc_good l1 [] 0 h1]
      simp only [if_true, List.nil_append]
      rw [show ((0 : Int) != 0) = false from rfl, colophonlaw01_UtfOrder.j0, if_neg (by simp)]
      have := order_l0 l0 l1 (forms l0) (forms l1) (by omega) l0.length 0 (6 * l0.length + 6 * l1.length + 42) (by omega) (by omega) (by omega) (by omega)
      simp only [Int.natCast_zero, List.drop_zero] at this
      rw [this, str_list, str_list]
      have := bytesLess_eq (forms l0) (forms l1) (forms_byte l0) (forms_byte l1)
      rw [forms_less l0 l1 h0 h1] at this
      unfold u8s at this
      rw [this]
      simp
    · rw [enc_good l0 [] 0 h0]
      have : ((encR l1 [] 0).2.2 != 0) = true := by rw [bne_iff_ne]; exact fun h => h1 ((enc_code l1).mp h)
      rw [this]
      simp only [if_true]
      exact hj _ _ _ (by omega)
  · rw [if_neg (fun h => h0 ((enc_code l0).mp h))]
    exact hj _ _ _ (by omega)

end Go.Proofs.Ytbdhclhioeeanaa.Pure
