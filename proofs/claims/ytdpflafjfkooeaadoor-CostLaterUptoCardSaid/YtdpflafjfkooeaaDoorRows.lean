/-
  NARROWER THAN 'FOR EVERY INPUT', by the rows' own cells (each row's printed sentence says how): CostBytes: laid · CostWrites: laid · CostSums: laid · CostLater: laid.
  DERIVED. THE GIVEN ROWS OF THIS SEAT. 4 by the template 'for every input the law returns true; each argument reads behind the call as it read before'; 0 by the template 'total and deterministic' (their statements: YtdpflafjfkooeaaDoorTotals.lean).
  GIVEN WITH THE SEED: the statements are not yours to turn. If you find one false, say at which input.
  Laid BY PROGRAM, IN A SANDBOX (cutbox-rows.mjs): the forced cells as the released guide's own fill.sh prints them over the translation 356bece11990c761… (all of the seat's roots in one cut). By AI agents, Wed Nov 11 2026. No macro, syntax, notation, axiom, sorry.
-/
import Derived.Test.YtdpflafjfkooeaaDoorChecked
import GoSem.Claim
import GoSem.ClaimJoined
import GoSem.ClaimMapViews
import Derived.JoinedTies
import Derived.KernelRfl
namespace Go.Proofs.YtdpflafjfkooeaaDoor
/- THE CELL 'sum', in the pinned program and in every row, IS THE sha256 OF THE DUMP (.gsa) THAT YtdpflafjfkooeaaDoorProg.lean LOADS. Nothing in Lean hashes anything: it is a label: what it is worth is what the hold of that sum in a sandbox is worth. -/
noncomputable def Tryd.pinned : Pinned := { name := "ytdpflafjfkooeaadoor", sum := "356bece11990c761fdd716bc2c2f00d4113b031e3f55b5eac2890f40616c5f4f", checked := Tryd.checked }
namespace Rows
def none {H : Type} : Left H := { results := [], args := [] }

/- WHAT THE LISTED PACKAGE-LEVEL VARIABLES READ AS WHEN THE CALL BEGINS. Each datum BY PROGRAM (the guide's laid-datum.mjs) off the statement by which the dump's own 'gosem.cut.vars' lays the variable. In a bare row this is a premise. The card (YtdpflafjfkooeaaDoorCards.lean) ties it to the program's text. -/
def laid_errors_errorType {H : Type} : DataW H := .iface "internal/reflectlite.rtype" (.agg [.ptr (.lit (.string [101, 114, 114, 111, 114]))])

/-- 'colophonlaw24.CostBytes': WHATEVER THE INPUT: true; the input reads as it did. -/
def costBytesSpec : ChangeSpec := { name := "costBytes", fn := fun _ => fun
  | [d1, d2, d3] => { results := [.lit (.bool true)], args := [d1, d2, d3] }
  | _ => none }
def costBytesRow : OpenClaim := { program := "ytdpflafjfkooeaadoor", sum := "356bece11990c761fdd716bc2c2f00d4113b031e3f55b5eac2890f40616c5f4f", func := "colophon/colophonlaw24.CostBytes", spec := "costBytes", inPlace := ["internal/reflectlite.ValueOf", "(internal/reflectlite.Value).Type", "(internal/reflectlite.Value).IsNil", "internal/reflectlite.TypeOf", "(internal/reflectlite.Value).Elem", "(internal/reflectlite.Value).Set"], unfollowed := true, recurses := true, named := ["errors.errorType"], apart := false, laid := [("errors.errorType", laid_errors_errorType)] }
def CostBytesSaid : Prop := costBytesRow.holds Tryd.pinned (OpenSpec.ofChange costBytesSpec)

/-- ITS FALSE NEIGHBOUR: 'it returns false'. Refute it at one input. -/
def costBytesWrong : ChangeSpec := { name := "costBytes", fn := fun _ => fun
  | [d1, d2, d3] => { results := [.lit (.bool false)], args := [d1, d2, d3] }
  | _ => none }
def CostBytesWrongFalsely : Prop := costBytesRow.holds Tryd.pinned (OpenSpec.ofChange costBytesWrong)

/-- 'colophonlaw24.CostWrites': WHATEVER THE INPUT: true; the input reads as it did. -/
def costWritesSpec : ChangeSpec := { name := "costWrites", fn := fun _ => fun
  | [d1, d2] => { results := [.lit (.bool true)], args := [d1, d2] }
  | _ => none }
def costWritesRow : OpenClaim := { program := "ytdpflafjfkooeaadoor", sum := "356bece11990c761fdd716bc2c2f00d4113b031e3f55b5eac2890f40616c5f4f", func := "colophon/colophonlaw24.CostWrites", spec := "costWrites", inPlace := ["internal/reflectlite.ValueOf", "(internal/reflectlite.Value).Type", "(internal/reflectlite.Value).IsNil", "internal/reflectlite.TypeOf", "(internal/reflectlite.Value).Elem", "(internal/reflectlite.Value).Set"], unfollowed := true, recurses := true, named := ["errors.errorType"], apart := false, laid := [("errors.errorType", laid_errors_errorType)] }
def CostWritesSaid : Prop := costWritesRow.holds Tryd.pinned (OpenSpec.ofChange costWritesSpec)

/-- ITS FALSE NEIGHBOUR: 'it returns false'. Refute it at one input. -/
def costWritesWrong : ChangeSpec := { name := "costWrites", fn := fun _ => fun
  | [d1, d2] => { results := [.lit (.bool false)], args := [d1, d2] }
  | _ => none }
def CostWritesWrongFalsely : Prop := costWritesRow.holds Tryd.pinned (OpenSpec.ofChange costWritesWrong)

/-- 'colophonlaw24.CostSums': WHATEVER THE INPUT: true; the input reads as it did. -/
def costSumsSpec : ChangeSpec := { name := "costSums", fn := fun _ => fun
  | [d1, d2, d3] => { results := [.lit (.bool true)], args := [d1, d2, d3] }
  | _ => none }
def costSumsRow : OpenClaim := { program := "ytdpflafjfkooeaadoor", sum := "356bece11990c761fdd716bc2c2f00d4113b031e3f55b5eac2890f40616c5f4f", func := "colophon/colophonlaw24.CostSums", spec := "costSums", inPlace := ["internal/reflectlite.ValueOf", "(internal/reflectlite.Value).Type", "(internal/reflectlite.Value).IsNil", "internal/reflectlite.TypeOf", "(internal/reflectlite.Value).Elem", "(internal/reflectlite.Value).Set"], unfollowed := true, recurses := true, named := ["errors.errorType"], apart := false, laid := [("errors.errorType", laid_errors_errorType)] }
def CostSumsSaid : Prop := costSumsRow.holds Tryd.pinned (OpenSpec.ofChange costSumsSpec)

/-- ITS FALSE NEIGHBOUR: 'it returns false'. Refute it at one input. -/
def costSumsWrong : ChangeSpec := { name := "costSums", fn := fun _ => fun
  | [d1, d2, d3] => { results := [.lit (.bool false)], args := [d1, d2, d3] }
  | _ => none }
def CostSumsWrongFalsely : Prop := costSumsRow.holds Tryd.pinned (OpenSpec.ofChange costSumsWrong)

/-- 'colophonlaw24.CostLater': WHATEVER THE INPUT: true; the input reads as it did. -/
def costLaterSpec : ChangeSpec := { name := "costLater", fn := fun _ => fun
  | [d1, d2, d3] => { results := [.lit (.bool true)], args := [d1, d2, d3] }
  | _ => none }
def costLaterRow : OpenClaim := { program := "ytdpflafjfkooeaadoor", sum := "356bece11990c761fdd716bc2c2f00d4113b031e3f55b5eac2890f40616c5f4f", func := "colophon/colophonlaw24.CostLater", spec := "costLater", inPlace := ["internal/reflectlite.ValueOf", "(internal/reflectlite.Value).Type", "(internal/reflectlite.Value).IsNil", "internal/reflectlite.TypeOf", "(internal/reflectlite.Value).Elem", "(internal/reflectlite.Value).Set"], unfollowed := true, recurses := true, named := ["errors.errorType"], apart := false, laid := [("errors.errorType", laid_errors_errorType)] }
def CostLaterSaid : Prop := costLaterRow.holds Tryd.pinned (OpenSpec.ofChange costLaterSpec)

/-- ITS FALSE NEIGHBOUR: 'it returns false'. Refute it at one input. -/
def costLaterWrong : ChangeSpec := { name := "costLater", fn := fun _ => fun
  | [d1, d2, d3] => { results := [.lit (.bool false)], args := [d1, d2, d3] }
  | _ => none }
def CostLaterWrongFalsely : Prop := costLaterRow.holds Tryd.pinned (OpenSpec.ofChange costLaterWrong)

/- THE SECOND FORM. 'bulk': how many values and letters a reading holds, each counted each time it is reached (what is shared counts as often as it is met; a slice's spare places count too). A statement '..UptoSaid' is the law's where the arguments, and the package variables that the reading takes, are together of bulk at most 1048576: NARROWER than '..Said'. Prove '..Said' where nothing that the law and all that it calls make is longer than what came in: it says more and counts as full. Else prove '..UptoSaid'. A law counts once. -/
mutual
def uptoBulk {H : Type} : DataW H → Nat
  | .lit (.string bytes) => bytes.length + 1
  | .lit _ => 1
  | .nil => 1
  | .ptr d => uptoBulk d + 1
  | .slice elems spare => uptoBulkAll elems + uptoBulkAll spare + 1
  | .agg parts => uptoBulkAll parts + 1
  | .iface _ d => uptoBulk d + 1
  | .map entries => uptoBulkEntries entries + 1
  | .held _ => 1
def uptoBulkAll {H : Type} : List (DataW H) → Nat
  | [] => 0
  | d :: r => uptoBulk d + uptoBulkAll r
def uptoBulkEntries {H : Type} : List (Lit × DataW H) → Nat
  | [] => 0
  | x :: r => uptoBulkEntry x + uptoBulkEntries r
def uptoBulkEntry {H : Type} : Lit × DataW H → Nat
  | (.string bytes, d) => bytes.length + uptoBulk d + 1
  | (_, d) => uptoBulk d + 1
 end
def uptoSmall : (H : Type) → List (DataW H) → Bool := fun _ ds => decide (uptoBulkAll ds ≤ 1048576)
def OpenSpec.upto (s : _root_.Go.ChangeSpec) : _root_.Go.OpenSpec := { _root_.Go.OpenSpec.ofChange s with cond := some uptoSmall }

/-- 'colophonlaw24.CostBytes', WHERE WHAT IT READS IS OF BULK AT MOST 1048576: true; the input reads as it did. -/
def costBytesUptoRow : OpenClaim := { program := "ytdpflafjfkooeaadoor", sum := "356bece11990c761fdd716bc2c2f00d4113b031e3f55b5eac2890f40616c5f4f", func := "colophon/colophonlaw24.CostBytes", spec := "costBytes", inPlace := ["internal/reflectlite.ValueOf", "(internal/reflectlite.Value).Type", "(internal/reflectlite.Value).IsNil", "internal/reflectlite.TypeOf", "(internal/reflectlite.Value).Elem", "(internal/reflectlite.Value).Set"], unfollowed := true, recurses := true, named := ["errors.errorType"], apart := false, laid := [("errors.errorType", laid_errors_errorType)], narrowed := true }
def CostBytesUptoSaid : Prop := costBytesUptoRow.holds Tryd.pinned (OpenSpec.upto costBytesSpec)

/-- 'colophonlaw24.CostWrites', WHERE WHAT IT READS IS OF BULK AT MOST 1048576: true; the input reads as it did. -/
def costWritesUptoRow : OpenClaim := { program := "ytdpflafjfkooeaadoor", sum := "356bece11990c761fdd716bc2c2f00d4113b031e3f55b5eac2890f40616c5f4f", func := "colophon/colophonlaw24.CostWrites", spec := "costWrites", inPlace := ["internal/reflectlite.ValueOf", "(internal/reflectlite.Value).Type", "(internal/reflectlite.Value).IsNil", "internal/reflectlite.TypeOf", "(internal/reflectlite.Value).Elem", "(internal/reflectlite.Value).Set"], unfollowed := true, recurses := true, named := ["errors.errorType"], apart := false, laid := [("errors.errorType", laid_errors_errorType)], narrowed := true }
def CostWritesUptoSaid : Prop := costWritesUptoRow.holds Tryd.pinned (OpenSpec.upto costWritesSpec)

/-- 'colophonlaw24.CostSums', WHERE WHAT IT READS IS OF BULK AT MOST 1048576: true; the input reads as it did. -/
def costSumsUptoRow : OpenClaim := { program := "ytdpflafjfkooeaadoor", sum := "356bece11990c761fdd716bc2c2f00d4113b031e3f55b5eac2890f40616c5f4f", func := "colophon/colophonlaw24.CostSums", spec := "costSums", inPlace := ["internal/reflectlite.ValueOf", "(internal/reflectlite.Value).Type", "(internal/reflectlite.Value).IsNil", "internal/reflectlite.TypeOf", "(internal/reflectlite.Value).Elem", "(internal/reflectlite.Value).Set"], unfollowed := true, recurses := true, named := ["errors.errorType"], apart := false, laid := [("errors.errorType", laid_errors_errorType)], narrowed := true }
def CostSumsUptoSaid : Prop := costSumsUptoRow.holds Tryd.pinned (OpenSpec.upto costSumsSpec)

/-- 'colophonlaw24.CostLater', WHERE WHAT IT READS IS OF BULK AT MOST 1048576: true; the input reads as it did. -/
def costLaterUptoRow : OpenClaim := { program := "ytdpflafjfkooeaadoor", sum := "356bece11990c761fdd716bc2c2f00d4113b031e3f55b5eac2890f40616c5f4f", func := "colophon/colophonlaw24.CostLater", spec := "costLater", inPlace := ["internal/reflectlite.ValueOf", "(internal/reflectlite.Value).Type", "(internal/reflectlite.Value).IsNil", "internal/reflectlite.TypeOf", "(internal/reflectlite.Value).Elem", "(internal/reflectlite.Value).Set"], unfollowed := true, recurses := true, named := ["errors.errorType"], apart := false, laid := [("errors.errorType", laid_errors_errorType)], narrowed := true }
def CostLaterUptoSaid : Prop := costLaterUptoRow.holds Tryd.pinned (OpenSpec.upto costLaterSpec)

end Rows
end Go.Proofs.YtdpflafjfkooeaaDoor
