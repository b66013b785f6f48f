/- WeakTwice: applied to what they leave, the rules leave it as it is. -/
import Derived.Test.YtckajjoliiefdaaPWx15
import Derived.Test.YtckajjoliiefdaaK4
namespace Go.Proofs.Ytckajjoliiefdaa.Pure
open Go.RowKit Go.Proofs.Ytckajjoliiefdaa.PW Go.Proofs.YtckajjoliiefdaaW.PrintWords Go.Proofs.YtckajjoliiefdaaW.PrintLast Go.Proofs.Ytckajjoliiefdaa.K

theorem WeakTwice : colophonlaw09_WeakTwice.Pure := by
  intro l0 a1 _ h8 _ _
  have hm : l0.length < 17592186044416 := by omega
  refine ⟨l0.length + l0.length + 40, ?_⟩
  unfold colophonlaw09_WeakTwice.f
  rw [works_f _ (by omega), Option.bind_some, if_pos rfl, resolve_f _ l0 a1 hm (by omega), Option.bind_some]
  by_cases hw : wrong l0 a1 = 0
  · obtain ⟨ha, hl⟩ := wrong_zero hw
    have hn := all_len a1 l0
    rw [if_pos hw, if_pos rfl, resolve_f _ (all a1 l0) a1 (by omega) (by omega), Option.bind_some, if_pos (wrong_ok ha (all_ok a1 ha l0 hl)), if_pos rfl, all_again a1 ha l0 hl, ints_f _ (all a1 l0) (by omega) (by omega), Option.bind_some]
  · rw [if_neg hw, if_neg hw]
    rfl
end Go.Proofs.Ytckajjoliiefdaa.Pure
