/- UtfReads in its second form: what is left to be shown, and the walk under it. -/
import Derived.Test.YtbdhclhioeeanaaPUx9
namespace Go.Proofs.Ytbdhclhioeeanaa.PU
open Go.RowKit Go.Proofs.YtbdhclhioeeanaaW.PrintWords Go.Proofs.YtbdhclhioeeanaaW.PrintLast Go.Proofs.YtbdhclhioeeanaaW.PrintMore
set_option linter.unusedVariables false

def colophonlaw01_UtfReads.PureU : Prop := ∀ (l0 : List Int), l0.length ≤ maxLen → l0.length * 1 ≤ 140737488351232 → (∀ x ∈ l0, (Lit.int .u8 x).wf = true) → l0.length ≤ 1048576 → ∃ k, colophonlaw01_UtfReads.f k l0 = some true
theorem colophonlaw01_UtfReads.walkU (P : colophonlaw01_UtfReads.PureU) (a0 : Option Addr) (len0 cap0 : Nat) (z0 : List Int) (w : World) (w0 : (a0 = none ∧ len0 = 0 ∧ cap0 = 0 ∧ z0 = []) ∨ ∃ x, a0 = some x ∧ len0 ≤ cap0 ∧ cap0 ≤ maxLen ∧ z0.length = cap0 ∧ (∀ i, i < z0.length → w.cell? (x.add i) = some (.int .u8 (z0.getD i 0))) ∧ ∀ n ∈ z0, (Lit.int .u8 n).wf = true) (y0 : len0 * 1 ≤ 140737488351232)  (x0 : len0 ≤ 1048576) :
    Calls Try.prog 6 #[.slice a0 len0 cap0] w fun e w' => e = .returned (.bool true) ∧ Below w.heap.size w w' := by
  obtain ⟨l0, rfl, hr0, hm0, hw0, hc0⟩ := ReadsInt.ofRowC w0
  obtain ⟨k, h⟩ := P l0 hm0 y0 hw0 x0
  refine (colophonlaw01_UtfReads.calls k _ _ l0 true w (Kd.C_of_reads (d := (0 : Int)) (h1 := fun _ => rfl) hr0) hc0 h).mono ?_
  rintro e w' ⟨rfl, hd⟩
  exact ⟨rfl, hd⟩
end Go.Proofs.Ytbdhclhioeeanaa.PU
