/- WeakChain: all rules together are each by itself, one behind the other. -/
import Derived.Test.YtckajjoliiefdaaPWx18
import Derived.Test.YtckajjoliiefdaaK4
namespace Go.Proofs.Ytckajjoliiefdaa.Pure
open Go.RowKit Go.Proofs.Ytckajjoliiefdaa.PW Go.Proofs.YtckajjoliiefdaaW.PrintWords Go.Proofs.YtckajjoliiefdaaW.PrintLast Go.Proofs.Ytckajjoliiefdaa.K

theorem WeakChain : colophonlaw09_WeakChain.Pure := by
  intro l0 a1 _ h8 _ _
  have hm : l0.length < 17592186044416 := by omega
  refine ⟨l0.length + l0.length + 40, ?_⟩
  unfold colophonlaw09_WeakChain.f
  rw [works_f _ (by omega), Option.bind_some, if_pos rfl, resolve_f _ l0 a1 hm (by omega), Option.bind_some]
  by_cases hw : wrong l0 a1 = 0
  · obtain ⟨ha, hl⟩ := wrong_zero hw
    have st : ∀ (j : Nat) (q : List Int) (x : Int), x = j + 1 → j < 7 → q.length = l0.length → (∀ y ∈ q, okT y) → weak_Step.f (l0.length + l0.length + 40) q a1 x = some (ap j a1 q, 0) := fun j q x hx hj hq ho => by
      rw [step_f _ q a1 x (by omega) (by omega), if_neg (by omega), if_pos (wrong_ok ha ho), show (x - 1).toNat = j by omega]
    have o0 := ap_ok 0 (by omega) a1 ha l0 hl
    have o1 := ap_ok 1 (by omega) a1 ha _ o0
    have o2 := ap_ok 2 (by omega) a1 ha _ o1
    have o3 := ap_ok 3 (by omega) a1 ha _ o2
    have o4 := ap_ok 4 (by omega) a1 ha _ o3
    have o5 := ap_ok 5 (by omega) a1 ha _ o4
    have hn := all_len a1 l0
    rw [if_pos hw, if_pos rfl, st 0 l0 1 rfl (by omega) rfl hl, Option.bind_some, if_pos rfl, st 1 _ 2 rfl (by omega) (by simp only [ap_len]) o0, Option.bind_some, if_pos rfl, st 2 _ 3 rfl (by omega) (by simp only [ap_len]) o1, Option.bind_some, if_pos rfl,
      st 3 _ 4 rfl (by omega) (by simp only [ap_len]) o2, Option.bind_some, if_pos rfl, st 4 _ 5 rfl (by omega) (by simp only [ap_len]) o3, Option.bind_some, if_pos rfl, st 5 _ 6 rfl (by omega) (by simp only [ap_len]) o4, Option.bind_some, if_pos rfl, st 6 _ 7 rfl (by omega) (by simp only [ap_len]) o5, Option.bind_some, if_pos rfl]
    exact ints_f _ (all a1 l0) (by omega) (by omega)
  · rw [if_neg hw, if_neg hw, step_f _ l0 a1 1 hm (by omega), if_neg (by omega), if_neg hw, Option.bind_some, if_pos rfl]
    rfl
end Go.Proofs.Ytckajjoliiefdaa.Pure
