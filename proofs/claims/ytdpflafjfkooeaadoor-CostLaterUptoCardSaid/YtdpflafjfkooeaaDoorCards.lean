/-
  DERIVED. GIVEN WITH THE SEED: THE CARDS: each row of YtdpflafjfkooeaaDoorRows.lean that lists a variable, with what it lists TIED to the program's text (the seventh form; the later family's looks); each row that meets fmt, with fmt's text TOLD by the authors' own Lean function (tested against real Go, not proved from fmt's source: count such statements apart). THE CARD IS WHAT COUNTS. Prove the row's statement (the work); the ties are given (YtdpflafjfkooeaaDoorTie.lean); close each card by the builder's one call (the guide's Derived/Test/ToyasCard.lean, 'card_holds'). Laid BY PROGRAM, IN A SANDBOX (cutbox-door.mjs). By AI agents, Wed Nov 11 2026. No macro, syntax, notation, axiom, sorry.
-/
import Derived.Test.YtdpflafjfkooeaaDoorRows
import GoSem.ClaimSeven
namespace Go.Proofs.YtdpflafjfkooeaaDoor
namespace Rows

/-- THE TIED CARD OF 'colophonlaw24.CostBytes'. -/
def costBytesCard : Claim7 := { stood := { row := costBytesRow, standIns := [], harness := (true, "878a5dbf613b407e4ab6a026f350e9b704f67b0c3767a922660234895f56f754"), looks := true }, kinds := [], alts := [], laidByText := true, laidKinds := [.handle], laidTests := true, laidLooks := .later }
def CostBytesCardSaid : Prop := Claim7.holds Tryd.pinned (.plain (OpenSpec.ofChange costBytesSpec)) costBytesCard

/-- THE TIED CARD OF 'colophonlaw24.CostWrites'. -/
def costWritesCard : Claim7 := { stood := { row := costWritesRow, standIns := [], harness := (true, "878a5dbf613b407e4ab6a026f350e9b704f67b0c3767a922660234895f56f754"), looks := true }, kinds := [], alts := [], laidByText := true, laidKinds := [.handle], laidTests := true, laidLooks := .later }
def CostWritesCardSaid : Prop := Claim7.holds Tryd.pinned (.plain (OpenSpec.ofChange costWritesSpec)) costWritesCard

/-- THE TIED CARD OF 'colophonlaw24.CostSums'. -/
def costSumsCard : Claim7 := { stood := { row := costSumsRow, standIns := [], harness := (true, "878a5dbf613b407e4ab6a026f350e9b704f67b0c3767a922660234895f56f754"), looks := true }, kinds := [], alts := [], laidByText := true, laidKinds := [.handle], laidTests := true, laidLooks := .later }
def CostSumsCardSaid : Prop := Claim7.holds Tryd.pinned (.plain (OpenSpec.ofChange costSumsSpec)) costSumsCard

/-- THE TIED CARD OF 'colophonlaw24.CostLater'. -/
def costLaterCard : Claim7 := { stood := { row := costLaterRow, standIns := [], harness := (true, "878a5dbf613b407e4ab6a026f350e9b704f67b0c3767a922660234895f56f754"), looks := true }, kinds := [], alts := [], laidByText := true, laidKinds := [.handle], laidTests := true, laidLooks := .later }
def CostLaterCardSaid : Prop := Claim7.holds Tryd.pinned (.plain (OpenSpec.ofChange costLaterSpec)) costLaterCard

/-- THE SECOND FORM's CARD OF 'colophonlaw24.CostBytes'. -/
def costBytesUptoCard : Claim7 := { stood := { row := costBytesUptoRow, standIns := [], harness := (true, "878a5dbf613b407e4ab6a026f350e9b704f67b0c3767a922660234895f56f754"), looks := true }, kinds := [], alts := [], laidByText := true, laidKinds := [.handle], laidTests := true, laidLooks := .later }
def CostBytesUptoCardSaid : Prop := Claim7.holds Tryd.pinned (.plain (OpenSpec.upto costBytesSpec)) costBytesUptoCard

/-- THE SECOND FORM's CARD OF 'colophonlaw24.CostWrites'. -/
def costWritesUptoCard : Claim7 := { stood := { row := costWritesUptoRow, standIns := [], harness := (true, "878a5dbf613b407e4ab6a026f350e9b704f67b0c3767a922660234895f56f754"), looks := true }, kinds := [], alts := [], laidByText := true, laidKinds := [.handle], laidTests := true, laidLooks := .later }
def CostWritesUptoCardSaid : Prop := Claim7.holds Tryd.pinned (.plain (OpenSpec.upto costWritesSpec)) costWritesUptoCard

/-- THE SECOND FORM's CARD OF 'colophonlaw24.CostSums'. -/
def costSumsUptoCard : Claim7 := { stood := { row := costSumsUptoRow, standIns := [], harness := (true, "878a5dbf613b407e4ab6a026f350e9b704f67b0c3767a922660234895f56f754"), looks := true }, kinds := [], alts := [], laidByText := true, laidKinds := [.handle], laidTests := true, laidLooks := .later }
def CostSumsUptoCardSaid : Prop := Claim7.holds Tryd.pinned (.plain (OpenSpec.upto costSumsSpec)) costSumsUptoCard

/-- THE SECOND FORM's CARD OF 'colophonlaw24.CostLater'. -/
def costLaterUptoCard : Claim7 := { stood := { row := costLaterUptoRow, standIns := [], harness := (true, "878a5dbf613b407e4ab6a026f350e9b704f67b0c3767a922660234895f56f754"), looks := true }, kinds := [], alts := [], laidByText := true, laidKinds := [.handle], laidTests := true, laidLooks := .later }
def CostLaterUptoCardSaid : Prop := Claim7.holds Tryd.pinned (.plain (OpenSpec.upto costLaterSpec)) costLaterUptoCard
end Rows
end Go.Proofs.YtdpflafjfkooeaaDoor
