/- G17: what is known of functions: whatever has been shown of them. -/
import Derived.Test.YtaleiogdokdplaaGreatDoorT
import Derived.Test.YtaleiogdokdplaaGreatDoorG15
namespace Go.Proofs.YtaleiogdokdplaaGreatDoorG
open Go Go.RowKit Go.Proofs
set_option linter.unusedSimpArgs false
/-- Every function of which a contract is shown. -/
def orc (P : Program) : Orc := ⟨fun f args K => ∃ res rows fr, CallOk P f args res rows fr ∧ K res rows fr, fun gf caps K => ∃ els, IterOk P gf caps els ∧ K els⟩
theorem orc_ok (P : Program) : OrcOk P (orc P) := ⟨fun _ _ _ h => h, fun _ _ _ h => h⟩
theorem orc_i {P : Program} {f args K res rows fr} (h : CallOk P f args res rows fr) (hK : K res rows fr) : (orc P).f f args K := ⟨res, rows, fr, h, hK⟩
theorem orc_b {P : Program} {f args K b rows fr} (h : CallOk P f args (bo b) rows fr) (h1 : b = true → K (bo true) rows fr) (h2 : b = false → K (bo false) rows fr) : (orc P).f f args K := by
  refine ⟨_, _, _, h, ?_⟩
  cases b
  · exact h2 rfl
  · exact h1 rfl
theorem orc_it {P : Program} {gf caps els} (h : IterOk P gf caps els) (K : List (List X) → Prop) (hK : K els) : (orc P).it gf caps K := ⟨els, h, hK⟩
theorem mixed : Tryz.prog.follows .mixedOrders = true := by kernel_rfl
end Go.Proofs.YtaleiogdokdplaaGreatDoorG
