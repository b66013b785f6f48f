/-
  No cell of these rows narrows 'for every input' (looked for: loops, veiled, ifaces, maps, wideKeys, modest, calm, conditions, laid).
  DERIVED. THE GIVEN ROWS OF THIS SEAT. 7 by the template 'for every input the law returns true; each argument reads behind the call as it read before'; 0 by the template 'total and deterministic' (their statements: YtdpflafjfkooeaaTotals.lean).
  GIVEN WITH THE SEED: the statements are not yours to turn. If you find one false, say at which input.
  Laid BY PROGRAM, IN A SANDBOX (cutbox-rows.mjs): the forced cells as the released guide's own fill.sh prints them over the translation d2f771d0f89ccb55… (all of the seat's roots in one cut). By AI agents, Wed Nov 11 2026. No macro, syntax, notation, axiom, sorry.
-/
import Derived.Test.YtdpflafjfkooeaaChecked
import GoSem.Claim
import GoSem.ClaimJoined
import GoSem.ClaimMapViews
import Derived.JoinedTies
import Derived.KernelRfl
namespace Go.Proofs.Ytdpflafjfkooeaa
/- THE CELL 'sum', in the pinned program and in every row, IS THE sha256 OF THE DUMP (.gsa) THAT YtdpflafjfkooeaaProg.lean LOADS. Nothing in Lean hashes anything: it is a label: what it is worth is what the hold of that sum in a sandbox is worth. -/
noncomputable def Try.pinned : Pinned := { name := "ytdpflafjfkooeaa", sum := "d2f771d0f89ccb55de8098a36846e28485e6f4ad1f4ca1881fb13ed4158eb032", checked := Try.checked }
namespace Rows
def none {H : Type} : Left H := { results := [], args := [] }

/-- 'colophonlaw22.EditApplies': WHATEVER THE INPUT: true; the input reads as it did. -/
def editAppliesSpec : ChangeSpec := { name := "editApplies", fn := fun _ => fun
  | [d1, d2] => { results := [.lit (.bool true)], args := [d1, d2] }
  | _ => none }
def editAppliesRow : OpenClaim := { program := "ytdpflafjfkooeaa", sum := "d2f771d0f89ccb55de8098a36846e28485e6f4ad1f4ca1881fb13ed4158eb032", func := "colophon/colophonlaw22.EditApplies", spec := "editApplies", unfollowed := true, recurses := true, apart := false }
def EditAppliesSaid : Prop := editAppliesRow.holds Try.pinned (OpenSpec.ofChange editAppliesSpec)

/-- ITS FALSE NEIGHBOUR: 'it returns false'. Refute it at one input. -/
def editAppliesWrong : ChangeSpec := { name := "editApplies", fn := fun _ => fun
  | [d1, d2] => { results := [.lit (.bool false)], args := [d1, d2] }
  | _ => none }
def EditAppliesWrongFalsely : Prop := editAppliesRow.holds Try.pinned (OpenSpec.ofChange editAppliesWrong)

/-- 'colophonlaw23.CodecOps': WHATEVER THE INPUT: true; the input reads as it did. -/
def codecOpsSpec : ChangeSpec := { name := "codecOps", fn := fun _ => fun
  | [d1, d2] => { results := [.lit (.bool true)], args := [d1, d2] }
  | _ => none }
def codecOpsRow : OpenClaim := { program := "ytdpflafjfkooeaa", sum := "d2f771d0f89ccb55de8098a36846e28485e6f4ad1f4ca1881fb13ed4158eb032", func := "colophon/colophonlaw23.CodecOps", spec := "codecOps", unfollowed := true, recurses := true, apart := false }
def CodecOpsSaid : Prop := codecOpsRow.holds Try.pinned (OpenSpec.ofChange codecOpsSpec)

/-- ITS FALSE NEIGHBOUR: 'it returns false'. Refute it at one input. -/
def codecOpsWrong : ChangeSpec := { name := "codecOps", fn := fun _ => fun
  | [d1, d2] => { results := [.lit (.bool false)], args := [d1, d2] }
  | _ => none }
def CodecOpsWrongFalsely : Prop := codecOpsRow.holds Try.pinned (OpenSpec.ofChange codecOpsWrong)

/-- 'colophonlaw23.CodecStates': WHATEVER THE INPUT: true; the input reads as it did. -/
def codecStatesSpec : ChangeSpec := { name := "codecStates", fn := fun _ => fun
  | [d1, d2, d3] => { results := [.lit (.bool true)], args := [d1, d2, d3] }
  | _ => none }
def codecStatesRow : OpenClaim := { program := "ytdpflafjfkooeaa", sum := "d2f771d0f89ccb55de8098a36846e28485e6f4ad1f4ca1881fb13ed4158eb032", func := "colophon/colophonlaw23.CodecStates", spec := "codecStates", unfollowed := true, recurses := true, apart := false }
def CodecStatesSaid : Prop := codecStatesRow.holds Try.pinned (OpenSpec.ofChange codecStatesSpec)

/-- ITS FALSE NEIGHBOUR: 'it returns false'. Refute it at one input. -/
def codecStatesWrong : ChangeSpec := { name := "codecStates", fn := fun _ => fun
  | [d1, d2, d3] => { results := [.lit (.bool false)], args := [d1, d2, d3] }
  | _ => none }
def CodecStatesWrongFalsely : Prop := codecStatesRow.holds Try.pinned (OpenSpec.ofChange codecStatesWrong)

/-- 'colophonlaw23.CodecBack': WHATEVER THE INPUT: true; the input reads as it did. -/
def codecBackSpec : ChangeSpec := { name := "codecBack", fn := fun _ => fun
  | [d1, d2] => { results := [.lit (.bool true)], args := [d1, d2] }
  | _ => none }
def codecBackRow : OpenClaim := { program := "ytdpflafjfkooeaa", sum := "d2f771d0f89ccb55de8098a36846e28485e6f4ad1f4ca1881fb13ed4158eb032", func := "colophon/colophonlaw23.CodecBack", spec := "codecBack", unfollowed := true, recurses := true, apart := false }
def CodecBackSaid : Prop := codecBackRow.holds Try.pinned (OpenSpec.ofChange codecBackSpec)

/-- ITS FALSE NEIGHBOUR: 'it returns false'. Refute it at one input. -/
def codecBackWrong : ChangeSpec := { name := "codecBack", fn := fun _ => fun
  | [d1, d2] => { results := [.lit (.bool false)], args := [d1, d2] }
  | _ => none }
def CodecBackWrongFalsely : Prop := codecBackRow.holds Try.pinned (OpenSpec.ofChange codecBackWrong)

/-- 'colophonlaw23.CodecLasts': WHATEVER THE INPUT: true; the input reads as it did. -/
def codecLastsSpec : ChangeSpec := { name := "codecLasts", fn := fun _ => fun
  | [d1, d2, d3] => { results := [.lit (.bool true)], args := [d1, d2, d3] }
  | _ => none }
def codecLastsRow : OpenClaim := { program := "ytdpflafjfkooeaa", sum := "d2f771d0f89ccb55de8098a36846e28485e6f4ad1f4ca1881fb13ed4158eb032", func := "colophon/colophonlaw23.CodecLasts", spec := "codecLasts", unfollowed := true, recurses := true, apart := false }
def CodecLastsSaid : Prop := codecLastsRow.holds Try.pinned (OpenSpec.ofChange codecLastsSpec)

/-- ITS FALSE NEIGHBOUR: 'it returns false'. Refute it at one input. -/
def codecLastsWrong : ChangeSpec := { name := "codecLasts", fn := fun _ => fun
  | [d1, d2, d3] => { results := [.lit (.bool false)], args := [d1, d2, d3] }
  | _ => none }
def CodecLastsWrongFalsely : Prop := codecLastsRow.holds Try.pinned (OpenSpec.ofChange codecLastsWrong)

/-- 'colophonlaw23.CodecCuts': WHATEVER THE INPUT: true; the input reads as it did. -/
def codecCutsSpec : ChangeSpec := { name := "codecCuts", fn := fun _ => fun
  | [d1, d2, d3] => { results := [.lit (.bool true)], args := [d1, d2, d3] }
  | _ => none }
def codecCutsRow : OpenClaim := { program := "ytdpflafjfkooeaa", sum := "d2f771d0f89ccb55de8098a36846e28485e6f4ad1f4ca1881fb13ed4158eb032", func := "colophon/colophonlaw23.CodecCuts", spec := "codecCuts", unfollowed := true, recurses := true, apart := false }
def CodecCutsSaid : Prop := codecCutsRow.holds Try.pinned (OpenSpec.ofChange codecCutsSpec)

/-- ITS FALSE NEIGHBOUR: 'it returns false'. Refute it at one input. -/
def codecCutsWrong : ChangeSpec := { name := "codecCuts", fn := fun _ => fun
  | [d1, d2, d3] => { results := [.lit (.bool false)], args := [d1, d2, d3] }
  | _ => none }
def CodecCutsWrongFalsely : Prop := codecCutsRow.holds Try.pinned (OpenSpec.ofChange codecCutsWrong)

/-- 'colophonlaw23.CodecSizes': WHATEVER THE INPUT: true; the input reads as it did. -/
def codecSizesSpec : ChangeSpec := { name := "codecSizes", fn := fun _ => fun
  | [d] => { results := [.lit (.bool true)], args := [d] }
  | _ => none }
def codecSizesRow : OpenClaim := { program := "ytdpflafjfkooeaa", sum := "d2f771d0f89ccb55de8098a36846e28485e6f4ad1f4ca1881fb13ed4158eb032", func := "colophon/colophonlaw23.CodecSizes", spec := "codecSizes", unfollowed := true, recurses := true, apart := false }
def CodecSizesSaid : Prop := codecSizesRow.holds Try.pinned (OpenSpec.ofChange codecSizesSpec)

/-- ITS FALSE NEIGHBOUR: 'it returns false'. Refute it at one input. -/
def codecSizesWrong : ChangeSpec := { name := "codecSizes", fn := fun _ => fun
  | [d] => { results := [.lit (.bool false)], args := [d] }
  | _ => none }
def CodecSizesWrongFalsely : Prop := codecSizesRow.holds Try.pinned (OpenSpec.ofChange codecSizesWrong)

/- THE SECOND FORM. 'bulk': how many values and letters a reading holds, each counted each time it is reached (what is shared counts as often as it is met; a slice's spare places count too). A statement '..UptoSaid' is the law's where the arguments, and the package variables that the reading takes, are together of bulk at most 1048576: NARROWER than '..Said'. Prove '..Said' where nothing that the law and all that it calls make is longer than what came in: it says more and counts as full. Else prove '..UptoSaid'. A law counts once. -/
mutual
def uptoBulk {H : Type} : DataW H → Nat
  | .lit (.string bytes) => bytes.length + 1
  | .lit _ => 1
  | .nil => 1
  | .ptr d => uptoBulk d + 1
  | .slice elems spare => uptoBulkAll elems + uptoBulkAll spare + 1
  | .agg parts => uptoBulkAll parts + 1
  | .iface _ d => uptoBulk d + 1
  | .map entries => uptoBulkEntries entries + 1
  | .held _ => 1
def uptoBulkAll {H : Type} : List (DataW H) → Nat
  | [] => 0
  | d :: r => uptoBulk d + uptoBulkAll r
def uptoBulkEntries {H : Type} : List (Lit × DataW H) → Nat
  | [] => 0
  | x :: r => uptoBulkEntry x + uptoBulkEntries r
def uptoBulkEntry {H : Type} : Lit × DataW H → Nat
  | (.string bytes, d) => bytes.length + uptoBulk d + 1
  | (_, d) => uptoBulk d + 1
 end
def uptoSmall : (H : Type) → List (DataW H) → Bool := fun _ ds => decide (uptoBulkAll ds ≤ 1048576)
def OpenSpec.upto (s : _root_.Go.ChangeSpec) : _root_.Go.OpenSpec := { _root_.Go.OpenSpec.ofChange s with cond := some uptoSmall }

/-- 'colophonlaw22.EditApplies', WHERE WHAT IT READS IS OF BULK AT MOST 1048576: true; the input reads as it did. -/
def editAppliesUptoRow : OpenClaim := { program := "ytdpflafjfkooeaa", sum := "d2f771d0f89ccb55de8098a36846e28485e6f4ad1f4ca1881fb13ed4158eb032", func := "colophon/colophonlaw22.EditApplies", spec := "editApplies", unfollowed := true, recurses := true, apart := false, narrowed := true }
def EditAppliesUptoSaid : Prop := editAppliesUptoRow.holds Try.pinned (OpenSpec.upto editAppliesSpec)

/-- 'colophonlaw23.CodecOps', WHERE WHAT IT READS IS OF BULK AT MOST 1048576: true; the input reads as it did. -/
def codecOpsUptoRow : OpenClaim := { program := "ytdpflafjfkooeaa", sum := "d2f771d0f89ccb55de8098a36846e28485e6f4ad1f4ca1881fb13ed4158eb032", func := "colophon/colophonlaw23.CodecOps", spec := "codecOps", unfollowed := true, recurses := true, apart := false, narrowed := true }
def CodecOpsUptoSaid : Prop := codecOpsUptoRow.holds Try.pinned (OpenSpec.upto codecOpsSpec)

/-- 'colophonlaw23.CodecStates', WHERE WHAT IT READS IS OF BULK AT MOST 1048576: true; the input reads as it did. -/
def codecStatesUptoRow : OpenClaim := { program := "ytdpflafjfkooeaa", sum := "d2f771d0f89ccb55de8098a36846e28485e6f4ad1f4ca1881fb13ed4158eb032", func := "colophon/colophonlaw23.CodecStates", spec := "codecStates", unfollowed := true, recurses := true, apart := false, narrowed := true }
def CodecStatesUptoSaid : Prop := codecStatesUptoRow.holds Try.pinned (OpenSpec.upto codecStatesSpec)

/-- 'colophonlaw23.CodecBack', WHERE WHAT IT READS IS OF BULK AT MOST 1048576: true; the input reads as it did. -/
def codecBackUptoRow : OpenClaim := { program := "ytdpflafjfkooeaa", sum := "d2f771d0f89ccb55de8098a36846e28485e6f4ad1f4ca1881fb13ed4158eb032", func := "colophon/colophonlaw23.CodecBack", spec := "codecBack", unfollowed := true, recurses := true, apart := false, narrowed := true }
def CodecBackUptoSaid : Prop := codecBackUptoRow.holds Try.pinned (OpenSpec.upto codecBackSpec)

/-- 'colophonlaw23.CodecLasts', WHERE WHAT IT READS IS OF BULK AT MOST 1048576: true; the input reads as it did. -/
def codecLastsUptoRow : OpenClaim := { program := "ytdpflafjfkooeaa", sum := "d2f771d0f89ccb55de8098a36846e28485e6f4ad1f4ca1881fb13ed4158eb032", func := "colophon/colophonlaw23.CodecLasts", spec := "codecLasts", unfollowed := true, recurses := true, apart := false, narrowed := true }
def CodecLastsUptoSaid : Prop := codecLastsUptoRow.holds Try.pinned (OpenSpec.upto codecLastsSpec)

/-- 'colophonlaw23.CodecCuts', WHERE WHAT IT READS IS OF BULK AT MOST 1048576: true; the input reads as it did. -/
def codecCutsUptoRow : OpenClaim := { program := "ytdpflafjfkooeaa", sum := "d2f771d0f89ccb55de8098a36846e28485e6f4ad1f4ca1881fb13ed4158eb032", func := "colophon/colophonlaw23.CodecCuts", spec := "codecCuts", unfollowed := true, recurses := true, apart := false, narrowed := true }
def CodecCutsUptoSaid : Prop := codecCutsUptoRow.holds Try.pinned (OpenSpec.upto codecCutsSpec)

/-- 'colophonlaw23.CodecSizes', WHERE WHAT IT READS IS OF BULK AT MOST 1048576: true; the input reads as it did. -/
def codecSizesUptoRow : OpenClaim := { program := "ytdpflafjfkooeaa", sum := "d2f771d0f89ccb55de8098a36846e28485e6f4ad1f4ca1881fb13ed4158eb032", func := "colophon/colophonlaw23.CodecSizes", spec := "codecSizes", unfollowed := true, recurses := true, apart := false, narrowed := true }
def CodecSizesUptoSaid : Prop := codecSizesUptoRow.holds Try.pinned (OpenSpec.upto codecSizesSpec)

end Rows
end Go.Proofs.Ytdpflafjfkooeaa
