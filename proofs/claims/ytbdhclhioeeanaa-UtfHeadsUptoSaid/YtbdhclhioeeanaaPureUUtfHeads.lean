/- UtfHeads: a text has as many scalar values as heads, and its longest beginning up to a place ends just ahead of a head, or at its end. Condition: what is read is of bulk at most 1048576. -/
import Derived.Test.YtbdhclhioeeanaaWuUtfHeads
import Derived.Test.YtbdhclhioeeanaaU4
namespace Go.Proofs.Ytbdhclhioeeanaa.Pure
open Go.RowKit Go.Proofs.Ytbdhclhioeeanaa.PU Go.Proofs.YtbdhclhioeeanaaW.PrintWords Go.Proofs.YtbdhclhioeeanaaW.PrintLast Go.Proofs.Ytbdhclhioeeanaa.U

theorem UtfHeadsU : colophonlaw01_UtfHeads.PureU := by
  intro l0 a1 hm hs hw ha hu
  have hb : Bytes l0 := fun x hx => wf_u8 (hw x hx)
  have hn := wf_i64 ha
  -- the loop over the bytes
  have hl : ∀ (d i k : Nat) (c h : Int), l0.length - i ≤ d → i ≤ l0.length → 0 ≤ h → h + d ≤ 4611686018427387904 → ∃ k', k' + (l0.length - i) = k + 0 ∨ k < l0.length - i := fun d i k c h _ _ _ _ => ⟨k - (l0.length - i), by omega⟩
  clear hl
  have heads_l0 : ∀ (d i k : Nat) (c h : Int), l0.length - i = d → i ≤ l0.length → 0 ≤ h → h + d ≤ 4611686018427387904 → colophonlaw01_UtfHeads.l0 (k + d) l0 a1 c h i = colophonlaw01_UtfHeads.l0 k l0 a1 c (h + heads (l0.drop i)) (l0.length : Int) := by
    intro d
    induction d with
    | zero =>
      intro i k c h hd hi _ _
      obtain rfl : i = l0.length := by omega
      simp [heads]
    | succ d ih =>
      intro i k c h hd hi hh hh2
      have hlt : i < l0.length := by omega
      rw [show k + (d + 1) = (k + d) + 1 by omega, colophonlaw01_UtfHeads.l0, if_pos (by omega), if_pos (by omega)]
      have e1 : wrap64 ((i : Int) + 1) = ((i + 1 : Nat) : Int) := by rw [wrap_in (by omega) (by omega)]; omega
      rw [e1, drop_rd hlt]
      by_cases h1 : rd l0 (i : Int) < 128
      · rw [if_pos h1, wrap_in (x := h + 1) (by omega) (by omega), ih (i + 1) k c (h + 1) (by omega) (by omega) (by omega) (by omega)]
        have : heads (rd l0 (i : Int) :: l0.drop (i + 1)) = heads (l0.drop (i + 1)) + 1 := by simp [heads, head, h1]
        rw [this]
        congr 1; omega
      · rw [if_neg h1]
        by_cases h2 : rd l0 (i : Int) > 191
        · rw [if_pos h2, wrap_in (x := h + 1) (by omega) (by omega), ih (i + 1) k c (h + 1) (by omega) (by omega) (by omega) (by omega)]
          have h2' : (191 : Int) < rd l0 (i : Int) := h2
          have : heads (rd l0 (i : Int) :: l0.drop (i + 1)) = heads (l0.drop (i + 1)) + 1 := by simp [heads, head, h2']
          rw [this]
          congr 1; omega
        · rw [if_neg h2, ih (i + 1) k c h (by omega) (by omega) (by omega) (by omega)]
          have h2' : ¬ (191 : Int) < rd l0 (i : Int) := h2
          have : heads (rd l0 (i : Int) :: l0.drop (i + 1)) = heads (l0.drop (i + 1)) := by simp [heads, head, h1, h2']
          rw [this]
  refine ⟨2 * l0.length + l0.length + 43 + l0.length, ?_⟩
  unfold colophonlaw01_UtfHeads.f
  rw [works_some _ (by omega)]
  simp only [Option.bind_some, if_true]
  rw [utf_Count_some hb (by omega) _ (by omega)]
  simp only [Option.bind_some]
  rcases dec_split hb with ⟨m, h1, h2, h3⟩ | ⟨j, h1, h2⟩
  · rw [h3]
    simp only [if_true]
    have hge := forms_ge h1
    rw [h2] at hge
    have h0 := heads_l0 l0.length 0 (2 * l0.length + l0.length + 43) (m.length : Int) 0 (by omega) (by omega) (by omega) (by omega)
    simp only [Int.natCast_zero, List.drop_zero, Int.zero_add] at h0
    rw [h0, show 2 * l0.length + l0.length + 43 = (2 * l0.length + l0.length + 42) + 1 by omega, colophonlaw01_UtfHeads.l0, if_neg (by omega)]
    have hc := cut_text h1 (by rw [h2]; omega) a1 hn.1 hn.2 (2 * l0.length + l0.length + 42) (by omega)
    rw [h2] at hc
    rw [hc]
    simp only [Option.bind_some]
    have hh := forms_heads m h1
    rw [h2] at hh
    rw [if_pos (by omega)]
    have hr := room_range m a1 h1
    rw [h2] at hr
    -- from the head on
    have l1 : ∀ (d i k : Nat), l0.length - i ≤ d → 2 * d + 2 ≤ k → room m a1 < i → room m a1 < l0.length → colophonlaw01_UtfHeads.l1 k l0 a1 i = some true := by
      intro d
      have hend : ∀ (i k : Nat), 1 ≤ k → room m a1 < l0.length → colophonlaw01_UtfHeads.j4 k l0 a1 i false = some true := by
        intro i k hk hlt
        obtain ⟨k, rfl⟩ : ∃ m, k = m + 1 := ⟨k - 1, by omega⟩
        have := room_head m a1 h1 (by rw [h2]; exact hlt)
        rw [h2] at this
        rw [colophonlaw01_UtfHeads.j4, if_neg (by simp), decide_eq_true this.2.1]
      induction d with
      | zero =>
        intro i k hd hk h4 h5
        obtain ⟨k, rfl⟩ : ∃ m, k = m + 1 := ⟨k - 1, by omega⟩
        rw [colophonlaw01_UtfHeads.l1, if_neg (by omega)]
        exact hend i k (by omega) h5
      | succ d ih =>
        intro i k hd hk h4 h5
        obtain ⟨k, rfl⟩ : ∃ m, k = m + 2 := ⟨k - 2, by omega⟩
        rw [colophonlaw01_UtfHeads.l1]
        by_cases hi : i < l0.length
        · rw [if_pos (by omega)]
          by_cases hq : (i : Int) ≤ a1
          · rw [decide_eq_true hq, colophonlaw01_UtfHeads.j4, if_pos rfl, if_pos (by omega), if_pos (by omega)]
            have := room_head m a1 h1 (by rw [h2]; exact h5)
            rw [h2] at this
            have hf := this.2.2 i h4 (by omega) hq
            simp only [head, decide_eq_false_iff_not, not_or] at hf
            rw [if_neg hf.1, if_neg (fun h => hf.2 h), wrap_in (by omega) (by omega)]
            have := ih (i + 1) k (by omega) (by omega) (by omega) h5
            rwa [show ((i + 1 : Nat) : Int) = (i : Int) + 1 by omega] at this
          · rw [decide_eq_false hq]
            exact hend i _ (by omega) h5
        · rw [if_neg (by omega)]
          exact hend i _ (by omega) h5
    have j1 : ∀ k, 2 * l0.length + 10 ≤ k → colophonlaw01_UtfHeads.j1 k l0 a1 (room m a1) false = some true := by
      intro k hk
      obtain ⟨k, rfl⟩ : ∃ m, k = m + 2 := ⟨k - 2, by omega⟩
      rw [colophonlaw01_UtfHeads.j1, if_neg (by simp)]
      by_cases he : room m a1 = (l0.length : Int)
      · rw [if_pos he]
      · rw [if_neg he, if_pos (by omega), if_pos (by omega)]
        have hhd := room_head m a1 h1 (by rw [h2]; omega)
        rw [h2] at hhd
        have hd := hhd.1
        simp only [head, decide_eq_true_eq] at hd
        have j2 : colophonlaw01_UtfHeads.j2 (k + 1) l0 a1 (room m a1) false = some true := by
          rw [colophonlaw01_UtfHeads.j2, if_neg (by simp), wrap_in (by omega) (by omega)]
          obtain ⟨c, hcn⟩ : ∃ c : Nat, room m a1 = c := ⟨(room m a1).toNat, by omega⟩
          have := l1 l0.length (c + 1) k (by omega) (by omega) (by omega) (by omega)
          rw [hcn, show ((c : Int) + 1) = ((c + 1 : Nat) : Int) by omega]
          exact this
        by_cases h6 : rd l0 (room m a1) ≥ 128
        · rw [if_pos h6, decide_eq_false (by omega)]
          exact j2
        · rw [if_neg h6]
          exact j2
    rw [if_neg (by omega), if_neg (by omega)]
    by_cases hp : room m a1 > 0
    · rw [if_pos hp, decide_eq_false (by omega)]
      exact j1 _ (by omega)
    · rw [if_neg hp]
      exact j1 _ (by omega)
  · rw [h2]
    simp only [List.length_nil, Int.natCast_zero]
    rw [if_neg (by omega), if_pos (by trivial)]
    have hd : (decR l0.length (l0.drop 0) [] 0).2.2 ≠ 0 := by
      have : (dec l0).2.2 ≠ 0 := by rw [h2]; simp
      simpa [dec] using this
    obtain ⟨i, h3, h4⟩ := cut_bad hb (by omega) l0.length 0 (2 * l0.length + l0.length + 43 + l0.length) [] (by omega) (by omega) (by omega) hd
    simp only [Int.natCast_zero] at h4
    unfold utf_Cut.f
    rw [h4]
    simp only [Option.bind_some]
    rw [decide_eq_true (by omega)]

end Go.Proofs.Ytbdhclhioeeanaa.Pure
