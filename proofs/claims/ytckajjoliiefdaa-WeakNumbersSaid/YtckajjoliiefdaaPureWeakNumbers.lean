/- WeakNumbers: which strong type stands ahead of the numbers. -/
import Derived.Test.YtckajjoliiefdaaPWx19
import Derived.Test.YtckajjoliiefdaaK4
namespace Go.Proofs.Ytckajjoliiefdaa.Pure
open Go.RowKit Go.Proofs.Ytckajjoliiefdaa.PW Go.Proofs.YtckajjoliiefdaaW.PrintWords Go.Proofs.YtckajjoliiefdaaW.PrintLast Go.Proofs.Ytckajjoliiefdaa.K

theorem ls_take (s : Int) (l : List Int) (i : Nat) (h : i < l.length) : ls s (l.take (i + 1)) = if at_ l i = 1 ∨ at_ l i = 2 ∨ at_ l i = 3 then at_ l i else ls s (l.take i) := by
  rw [← take_at l i h]
  simp only [ls, List.foldl_append, List.foldl_cons, List.foldl_nil]
theorem numbers_l1 (t b : List Int) (a1 : Int) (hm : t.length < 17592186044416) (hb : b = weak_arabic.go a1 t) :
    ∀ (d i k : Nat) (x last : Int), x = i → last = ls a1 (b.take i) → i + d = t.length → d + d + 2 < k → colophonlaw09_WeakNumbers.l1 k t last b (b.length : Int) x = some true := by
  have hn : b.length = t.length := by rw [hb]; exact weak_arabic.go_len t a1
  have hb2 : weak_arabic.go a1 b = b := by rw [hb]; exact arabic_again t a1
  intro d
  induction d with
  | zero =>
    intro i k x last hx hl hi hk
    obtain ⟨k, rfl⟩ : ∃ k', k = k' + 1 := ⟨k - 1, by omega⟩
    rw [colophonlaw09_WeakNumbers.l1, if_neg (by omega)]
  | succ d ih =>
    intro i k x last hx hl hi hk
    obtain ⟨k, rfl⟩ : ∃ k', k = k' + 2 := ⟨k - 2, by omega⟩
    have e1 : rd b x = at_ b i := rd_at' b i x hx
    have e2 : rd t x = at_ t i := rd_at' t i x hx
    have nx := fun last hl => ih (i + 1) k (wrap64 (x + 1)) last (by rw [wrap_in (by omega) (by omega)]; omega) hl (by omega) (by omega)
    have f1 := arabic_at b a1 i (by omega)
    rw [hb2, ← hl] at f1
    have f2 := arabic_at t a1 i (by omega)
    rw [← hb, ← ls_arabic t a1 a1 i, ← hb, ← hl] at f2
    have hs := ls_take a1 b i (by omega)
    rw [← hl] at hs
    have j4 : colophonlaw09_WeakNumbers.j4 (k + 1) t last b (at_ b i) (b.length : Int) x false = some true := by
      rw [colophonlaw09_WeakNumbers.j4, if_neg (by decide)]
      by_cases c1 : at_ b i = 1
      · rw [if_pos c1]; exact nx _ (by rw [hs, if_pos (.inl c1)])
      · rw [if_neg c1]
        by_cases c2 : at_ b i = 2
        · rw [if_pos c2]; exact nx _ (by rw [hs, if_pos (.inr (.inl c2))])
        · rw [if_neg c2]
          by_cases c3 : at_ b i = 3
          · rw [if_pos c3]; exact nx _ (by rw [hs, if_pos (.inr (.inr c3))])
          · rw [if_neg c3]; exact nx _ (by rw [hs, if_neg (by omega)])
    rw [colophonlaw09_WeakNumbers.l1, if_pos (by omega), if_pos (by omega), if_pos (by omega), e1, e2]
    by_cases c4 : at_ b i = 4
    · have c3 : last ≠ 3 := fun h => by
        rw [if_pos ⟨c4, h⟩] at f1
        omega
      rw [if_pos c4, if_neg c3, if_neg (by omega), j4]
    · rw [if_neg c4]
      by_cases c7 : at_ b i = 7
      · rw [if_pos c7, if_pos (by omega)]
        by_cases t7 : at_ t i = 7
        · rw [if_pos t7, j4]
        · have c3 : last = 3 := by
            split at f2
            · rename_i h; exact h.2
            · omega
          rw [if_neg t7, show (last != 3) = false by rw [c3]; rfl, j4]
      · rw [if_neg c7, j4]
theorem numbers_l0 (t a : List Int) (a1 : Int) (ha : a1 = 1 ∨ a1 = 2) (hl : ∀ x ∈ t, okT x) (hm : t.length < 17592186044416) (hn : a.length = t.length) (hA : weak_latin.go a1 a = a) (h3 : ∀ i, i < t.length → at_ a i ≠ 3) :
    ∀ (d i k : Nat) (x last : Int), x = i → last = ls a1 (a.take i) → i + d = t.length → t.length + t.length + d + d + 12 < k → colophonlaw09_WeakNumbers.l0 k t a1 a last (a.length : Int) x = some true := by
  intro d
  induction d with
  | zero =>
    intro i k x last hx hla hi hk
    obtain ⟨k, rfl⟩ : ∃ k', k = k' + 2 := ⟨k - 2, by omega⟩
    rw [colophonlaw09_WeakNumbers.l0, if_neg (by omega), step_f _ t a1 2 hm (by omega), if_neg (by omega), if_pos (wrong_ok ha hl), Option.bind_some, if_pos rfl]
    have e : ap (2 - 1 : Int).toNat a1 t = weak_arabic.go a1 t := rfl
    rw [e, weak_arabic.go_len, bne_self_eq_false, colophonlaw09_WeakNumbers.j2, if_neg (by decide)]
    exact numbers_l1 t _ a1 hm rfl t.length 0 k 0 a1 rfl rfl (by omega) (by omega)
  | succ d ih =>
    intro i k x last hx hla hi hk
    obtain ⟨k, rfl⟩ : ∃ k', k = k' + 2 := ⟨k - 2, by omega⟩
    have e1 : rd a x = at_ a i := rd_at' a i x hx
    have nx := fun last hl => ih (i + 1) k (wrap64 (x + 1)) last (by rw [wrap_in (by omega) (by omega)]; omega) hl (by omega) (by omega)
    have f1 := latin_at a a1 i (by omega)
    rw [hA, ← hla] at f1
    have hs := ls_take a1 a i (by omega)
    rw [← hla] at hs
    have c3 := h3 i (by omega)
    have j1 : colophonlaw09_WeakNumbers.j1 (k + 1) t a1 a last (at_ a i) (a.length : Int) x false = some true := by
      rw [colophonlaw09_WeakNumbers.j1, if_neg (by decide)]
      by_cases c1 : at_ a i = 1
      · rw [if_pos c1]; exact nx _ (by rw [hs, if_pos (.inl c1)])
      · rw [if_neg c1]
        by_cases c2 : at_ a i = 2
        · rw [if_pos c2]; exact nx _ (by rw [hs, if_pos (.inr (.inl c2))])
        · rw [if_neg c2]; exact nx _ (by rw [hs, if_neg (by omega)])
    rw [colophonlaw09_WeakNumbers.l0, if_pos (by omega), if_pos (by omega), if_pos (by omega), e1]
    by_cases c4 : at_ a i = 4
    · have c1 : last ≠ 1 := fun h => by
        rw [if_pos ⟨c4, h⟩] at f1
        omega
      rw [if_pos c4, beq_eq_false_iff_ne.mpr c1, j1]
    · rw [if_neg c4, j1]
theorem WeakNumbers : colophonlaw09_WeakNumbers.Pure := by
  intro l0 a1 _ h8 _ _
  have hm : l0.length < 17592186044416 := by omega
  refine ⟨l0.length + l0.length + l0.length + l0.length + 40, ?_⟩
  unfold colophonlaw09_WeakNumbers.f
  rw [works_f _ (by omega), Option.bind_some, if_pos rfl, resolve_f _ l0 a1 hm (by omega), Option.bind_some]
  by_cases hw : wrong l0 a1 = 0
  · obtain ⟨ha, hl⟩ := wrong_zero hw
    have hn := all_len a1 l0
    rw [if_pos hw, if_pos rfl]
    exact numbers_l0 l0 (all a1 l0) a1 ha hl hm hn (latin_again _ _) (fun i hi => (all_at a1 ha l0 hl i hi).2.1) l0.length 0 _ 0 a1 rfl rfl (by omega) (by omega)
  · rw [if_neg hw, if_neg hw]
    rfl
end Go.Proofs.Ytckajjoliiefdaa.Pure
