/- G17: what is known of functions: whatever has been shown of them. -/
import Derived.Test.YtdpflafjfkooeaaDoorT
import Derived.Test.YtdpflafjfkooeaaDoorG15
namespace Go.Proofs.YtdpflafjfkooeaaDoorG
open Go Go.RowKit Go.Proofs
set_option linter.unusedSimpArgs false
/-- Functions that are handed an own row, as their first argument. -/
def mvB : Nat → Bool
  | 30 => true
  | 37 => true
  | 36 => true
  | _ => false
/-- Functions that are lent own variables. -/
def bxB : Nat → Bool
  | 81 => true
  | 69 => true
  | 70 => true
  | 72 => true
  | 71 => true
  | 68 => true
  | 67 => true
  | _ => false
/-- Every function of which a contract is shown. -/
def orc (P : Program) : Orc := ⟨fun f args K => ∃ res rows fr, CallOk P f args res rows fr ∧ K res rows fr, fun gf caps K => ∃ els, IterOk P gf caps els ∧ K els, fun f row args K => ∃ res rows, CallM P f row args res rows ∧ K res rows, mvB, fun f bs args K => ∃ out, CallB P f bs args out ∧ K out, bxB⟩
theorem orc_mv (P f) : (orc P).mv f = mvB f := rfl
theorem orc_bx (P f) : (orc P).bx f = bxB f := rfl
theorem orc_ok (P : Program) : OrcOk P (orc P) := ⟨fun _ _ _ _ h => h, fun _ _ _ _ h => h, fun _ _ _ h => h, fun _ _ _ h => h⟩
theorem orc_bc {P : Program} {f bs args K out} (h : CallB P f bs args out) (hK : K out) : (orc P).b f bs args K := ⟨out, h, hK⟩
theorem orc_bi {P : Program} {f bs args K} {c : Prop} [Decidable c] {o1 o2 : Out} (h : CallB P f bs args (if c then o1 else o2)) (h1 : c → K o1) (h2 : ¬ c → K o2) : (orc P).b f bs args K := by
  refine ⟨_, h, ?_⟩
  split
  · exact h1 ‹_›
  · exact h2 ‹_›
theorem orc_m {P : Program} {f row args K res rows} (h : CallM P f row args res rows) (hK : K res rows) : (orc P).m f row args K := ⟨res, rows, h, hK⟩
theorem orc_i {P : Program} {f args K res rows fr} (h : CallOk P f args res rows fr) (hK : K res rows fr) : (orc P).f f args K := ⟨res, rows, fr, h, hK⟩
theorem orc_b {P : Program} {f args K b rows fr} (h : CallOk P f args (bo b) rows fr) (h1 : b = true → K (bo true) rows fr) (h2 : b = false → K (bo false) rows fr) : (orc P).f f args K := by
  refine ⟨_, _, _, h, ?_⟩
  cases b
  · exact h2 rfl
  · exact h1 rfl
theorem orc_it {P : Program} {gf caps els} (h : IterOk P gf caps els) (K : List (List X) → Prop) (hK : K els) : (orc P).it gf caps K := ⟨els, h, hK⟩
theorem mixed : Tryd.prog.follows .mixedOrders = true := by kernel_rfl
end Go.Proofs.YtdpflafjfkooeaaDoorG
