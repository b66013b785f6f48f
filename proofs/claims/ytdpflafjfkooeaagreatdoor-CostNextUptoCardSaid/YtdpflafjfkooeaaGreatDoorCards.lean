/-
  DERIVED. GIVEN WITH THE SEED: THE CARDS: each row of YtdpflafjfkooeaaGreatDoorRows.lean that lists a variable, with what it lists TIED to the program's text (the seventh form; the later family's looks); each row that meets fmt, with fmt's text TOLD by the authors' own Lean function (tested against real Go, not proved from fmt's source: count such statements apart). THE CARD IS WHAT COUNTS. Prove the row's statement (the work); the ties are given (YtdpflafjfkooeaaGreatDoorTie.lean); close each card by the builder's one call (the guide's Derived/Test/ToyasCard.lean, 'card_holds'). Laid BY PROGRAM, IN A SANDBOX (cutbox-door.mjs). By AI agents, Wed Nov 11 2026. No macro, syntax, notation, axiom, sorry.
-/
import Derived.Test.YtdpflafjfkooeaaGreatDoorRows
import GoSem.ClaimSeven
namespace Go.Proofs.YtdpflafjfkooeaaGreatDoor
namespace Rows

/-- THE TIED CARD OF 'colophonlaw24.CostNext'. -/
def costNextCard : Claim7 := { stood := { row := costNextRow, standIns := [], harness := (true, "3e7169bbcb594e2a5e04d9ecb14ecae2232904827ffb4cb0ce3341f0900aada5"), looks := true }, kinds := [], alts := [], laidByText := true, laidKinds := [.handle], laidTests := true, laidLooks := .later }
def CostNextCardSaid : Prop := Claim7.holds Tryz.pinned (.plain (OpenSpec.ofChange costNextSpec)) costNextCard

/-- THE SECOND FORM's CARD OF 'colophonlaw24.CostNext'. -/
def costNextUptoCard : Claim7 := { stood := { row := costNextUptoRow, standIns := [], harness := (true, "3e7169bbcb594e2a5e04d9ecb14ecae2232904827ffb4cb0ce3341f0900aada5"), looks := true }, kinds := [], alts := [], laidByText := true, laidKinds := [.handle], laidTests := true, laidLooks := .later }
def CostNextUptoCardSaid : Prop := Claim7.holds Tryz.pinned (.plain (OpenSpec.upto costNextSpec)) costNextUptoCard
end Rows
end Go.Proofs.YtdpflafjfkooeaaGreatDoor
