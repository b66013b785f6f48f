/- WeakGone: which types there are behind all rules, and which are as they were. -/
import Derived.Test.YtckajjoliiefdaaPWx14
import Derived.Test.YtckajjoliiefdaaK4
namespace Go.Proofs.Ytckajjoliiefdaa.Pure
open Go.RowKit Go.Proofs.Ytckajjoliiefdaa.PW Go.Proofs.YtckajjoliiefdaaW.PrintWords Go.Proofs.YtckajjoliiefdaaW.PrintLast Go.Proofs.Ytckajjoliiefdaa.K

theorem gone_l0 (t a : List Int) (hm : t.length < 17592186044416) (hn : a.length = t.length)
    (h : ∀ i, i < t.length → at_ a i ≠ 9 ∧ at_ a i ≠ 3 ∧ at_ a i ≠ 5 ∧ at_ a i ≠ 6 ∧ at_ a i ≠ 8 ∧ ((at_ t i = 1 ∨ at_ t i = 2 ∨ at_ t i ≥ 11) → at_ a i = at_ t i)) :
    ∀ (d i k : Nat) (x : Int), x = i → i + d = t.length → d + d + 2 < k → colophonlaw09_WeakGone.l0 k t a (a.length : Int) x = some true := by
  intro d
  induction d with
  | zero =>
    intro i k x hx hi hk
    obtain ⟨k, rfl⟩ : ∃ k', k = k' + 1 := ⟨k - 1, by omega⟩
    rw [colophonlaw09_WeakGone.l0, if_neg (by omega)]
  | succ d ih =>
    intro i k x hx hi hk
    obtain ⟨k, rfl⟩ : ∃ k', k = k' + 2 := ⟨k - 2, by omega⟩
    obtain ⟨h1, h2, h3, h4, h5, h6⟩ := h i (by omega)
    have e1 : rd a x = at_ a i := rd_at' a i x hx
    have e2 : rd t x = at_ t i := rd_at' t i x hx
    have nx := ih (i + 1) k (wrap64 (x + 1)) (by rw [wrap_in (by omega) (by omega)]; omega) (by omega) (by omega)
    rw [colophonlaw09_WeakGone.l0, if_pos (by omega), if_pos (by omega), if_pos (by omega), e1, if_neg h1, if_neg h2, if_neg h3, if_neg h4, beq_eq_false_iff_ne.mpr h5, colophonlaw09_WeakGone.j1, if_neg (by decide), if_pos (by omega), if_pos (by omega), e2, nx]
    by_cases c1 : at_ t i = 1
    · rw [if_pos c1, if_pos (h6 (.inl c1))]
    · rw [if_neg c1]
      by_cases c2 : at_ t i = 2
      · rw [if_pos c2, if_pos (h6 (.inr (.inl c2)))]
      · rw [if_neg c2]
        by_cases c3 : at_ t i ≥ 11
        · rw [if_pos c3, if_pos (h6 (.inr (.inr c3)))]
        · rw [if_neg c3]
theorem WeakGone : colophonlaw09_WeakGone.Pure := by
  intro l0 a1 _ h8 _ _
  have hm : l0.length < 17592186044416 := by omega
  refine ⟨l0.length + l0.length + 40, ?_⟩
  unfold colophonlaw09_WeakGone.f
  rw [works_f _ (by omega), Option.bind_some, if_pos rfl, resolve_f _ l0 a1 hm (by omega), Option.bind_some]
  by_cases hw : wrong l0 a1 = 0
  · obtain ⟨ha, hl⟩ := wrong_zero hw
    have hn := all_len a1 l0
    rw [if_pos hw, if_pos rfl, if_pos (by rw [hn])]
    exact gone_l0 l0 (all a1 l0) hm hn (all_at a1 ha l0 hl) l0.length 0 _ 0 rfl (by omega) (by omega)
  · rw [if_neg hw, if_neg hw]
    rfl
end Go.Proofs.Ytckajjoliiefdaa.Pure
