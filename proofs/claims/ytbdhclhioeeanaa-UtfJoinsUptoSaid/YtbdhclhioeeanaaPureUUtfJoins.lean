/- UtfJoins: two texts, one behind the other, are a text: the bytes and the scalar values of both; a cut between them takes the first. Condition: what is read is of bulk at most 1048576. -/
import Derived.Test.YtbdhclhioeeanaaWuUtfJoins
import Derived.Test.YtbdhclhioeeanaaU4
namespace Go.Proofs.Ytbdhclhioeeanaa.Pure
open Go.RowKit Go.Proofs.Ytbdhclhioeeanaa.PU Go.Proofs.YtbdhclhioeeanaaW.PrintWords Go.Proofs.YtbdhclhioeeanaaW.PrintLast Go.Proofs.Ytbdhclhioeeanaa.U

theorem UtfJoinsU : colophonlaw01_UtfJoins.PureU := by
  intro l0 l1 hm0 hs0 hw0 hm1 hs1 hw1 hu0 hu1
  refine ⟨6 * l0.length + 6 * l1.length + 4 * l0.length + 4 * l1.length + 43, ?_⟩
  unfold colophonlaw01_UtfJoins.f
  rw [works_some _ (by omega)]
  simp only [Option.bind_some, if_true, List.nil_append, List.length_nil, Nat.zero_add]
  rw [utf_Encode_some l0 _ (by omega) (by omega), utf_Encode_some l1 _ (by omega) (by omega)]
  simp only [Option.bind_some]
  rw [if_pos (by omega), if_pos (by omega), utf_Encode_some (l0 ++ l1) _ (by simp; omega) (by simp; omega)]
  simp only [Option.bind_some]
  by_cases h0 : Gd l0
  · rw [enc_good l0 [] 0 h0]
    simp only [if_true, List.nil_append]
    by_cases h1 : Gd l1
    · have hg : Gd (l0 ++ l1) := fun r hr => by
        rcases List.mem_append.mp hr with h | h
        · exact h0 r h
        · exact h1 r h
      have hf0 := forms_len l0
      have hf1 := forms_len l1
      have hf : (forms (l0 ++ l1)).length = (forms l0).length + (forms l1).length := by rw [forms_append]; simp
      rw [enc_good l1 [] 0 h1, enc_good (l0 ++ l1) [] 0 hg]
      simp only [if_true, List.nil_append]
      rw [utf_Count_some (forms_byte _) (by omega) _ (by omega), dec_enc hg]
      simp only [Option.bind_some, if_true]
      have e1 : (strOfNums (forms l0)).size = (forms l0).length := by simp [strOfNums, ByteArray.size]
      have e2 : (strOfNums (forms l1)).size = (forms l1).length := by simp [strOfNums, ByteArray.size]
      rw [if_pos (by omega)]
      have e3 : (strOfNums (forms (l0 ++ l1))).toList = ((strOfNums (forms l0)) ++ (strOfNums (forms l1))).toList := by
        rw [str_list, ByteArray.toList_eq, forms_append]
        simp [strOfNums]
      rw [if_pos e3, wrap_in (by omega) (by omega), if_pos (by simp)]
      rw [cut_text hg (by omega) _ (by omega) (by omega) _ (by simp; omega), cut_text hg (by omega) _ (by omega) (by omega) _ (by simp; omega)]
      simp only [Option.bind_some]
      rw [room_left l0 l1 h0 h1, if_pos rfl]
      have := room_left (l0 ++ l1) [] hg (fun r hr => by simp at hr)
      rw [List.append_nil] at this
      rw [this]
      simp
    · have hg : ¬ Gd (l0 ++ l1) := fun h => h1 (fun r hr => h r (by simp [hr]))
      rw [if_neg (fun h => h1 ((enc_code l1).mp h))]
      obtain ⟨j, h2, h3, h4, h5⟩ := enc_bad (l0 ++ l1) [] 0 hg
      rw [h5]
      simp only [if_true]
      have : ¬ j < l0.length := by
        intro hj
        have e : rd (l0 ++ l1) (j : Int) = rd l0 (j : Int) := by simp [rd, List.getD, List.getElem?_append_left hj]
        rw [e] at h4
        exact h0 (rd l0 j) (by simp [rd, List.getD, List.getElem?_eq_getElem hj]) h4
      rw [if_pos (by omega)]
      simp
  · rw [if_neg (fun h => h0 ((enc_code l0).mp h))]
    have hg : ¬ Gd (l0 ++ l1) := fun h => h0 (fun r hr => h r (by simp [hr]))
    obtain ⟨i, i2, i3, i4, i5⟩ := enc_bad l0 [] 0 h0
    obtain ⟨j, h2, h3, h4, h5⟩ := enc_bad (l0 ++ l1) [] 0 hg
    rw [h5]
    simp only [if_true]
    have : j < l0.length := by
      apply Classical.byContradiction
      intro hj
      have e : rd (l0 ++ l1) (i : Int) = rd l0 (i : Int) := by simp [rd, List.getD, List.getElem?_append_left i2]
      exact h3 i (by omega) (by rw [e]; exact i4)
    rw [if_pos (by omega)]
    simp

end Go.Proofs.Ytbdhclhioeeanaa.Pure
