/- WeakResolves: what all rules make of types is what the document has. -/
import Derived.Test.YtckajjoliiefdaaPWx13
import Derived.Test.YtckajjoliiefdaaK4
namespace Go.Proofs.Ytckajjoliiefdaa.Pure
open Go.RowKit Go.Proofs.Ytckajjoliiefdaa.PW Go.Proofs.YtckajjoliiefdaaW.PrintWords Go.Proofs.YtckajjoliiefdaaW.PrintLast Go.Proofs.Ytckajjoliiefdaa.K

theorem WeakResolves : colophonlaw09_WeakResolves.Pure := by
  intro l0 a1 _ h8 _ _
  have hm : l0.length < 17592186044416 := by omega
  refine ⟨l0.length + l0.length + 40, ?_⟩
  have W := works_f (l0.length + l0.length + 40) (by omega)
  have R1 : weak_Resolve.f (l0.length + l0.length + 40) l0 a1 = some (res a1 l0) := resolve_f _ l0 a1 hm (by omega)
  have R2 : colophonref09_Resolve.f (l0.length + l0.length + 40) l0 a1 = some (res a1 l0) := refResolve_f _ l0 a1 hm (by omega)
  have hl := res_len a1 l0
  unfold colophonlaw09_WeakResolves.f
  split
  · rw [W]; rfl
  · rw [Option.bind_some, if_pos (by simpa using hm), Option.bind_some, List.nil_append, R1, Option.bind_some, R2, Option.bind_some, ints_f _ _ (by omega) (by omega), Option.bind_some, if_pos rfl, if_pos rfl, ints_f _ _ hm (by omega), Option.bind_some, if_pos rfl, W, Option.bind_some]
end Go.Proofs.Ytckajjoliiefdaa.Pure
