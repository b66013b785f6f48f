/-
  No cell of these rows narrows 'for every input' (looked for: loops, veiled, ifaces, maps, wideKeys, modest, calm, conditions, laid).
  DERIVED. THE GIVEN ROWS OF THIS SEAT. 6 by the template 'for every input the law returns true; each argument reads behind the call as it read before'; 0 by the template 'total and deterministic' (their statements: YtncabdcaamkhiaaTotals.lean).
  GIVEN WITH THE SEED: the statements are not yours to turn. If you find one false, say at which input.
  Laid BY PROGRAM, IN A SANDBOX (cutbox-rows.mjs): the forced cells as the released guide's own fill.sh prints them over the translation 1612870add34bc52… (all of the seat's roots in one cut). By AI agents, Wed Nov 11 2026. No macro, syntax, notation, axiom, sorry.
-/
import Derived.Test.YtncabdcaamkhiaaChecked
import GoSem.Claim
import GoSem.ClaimJoined
import GoSem.ClaimMapViews
import Derived.JoinedTies
import Derived.KernelRfl
namespace Go.Proofs.Ytncabdcaamkhiaa
/- THE CELL 'sum', in the pinned program and in every row, IS THE sha256 OF THE DUMP (.gsa) THAT YtncabdcaamkhiaaProg.lean LOADS. Nothing in Lean hashes anything: it is a label: what it is worth is what the hold of that sum in a sandbox is worth. -/
noncomputable def Try.pinned : Pinned := { name := "ytncabdcaamkhiaa", sum := "1612870add34bc52a29d3a39711de6369917ba08dabec42ce9ebc6ac54f38763", checked := Try.checked }
namespace Rows
def none {H : Type} : Left H := { results := [], args := [] }

/-- 'colophonlaw10.BracketPairs': WHATEVER THE INPUT: true; the input reads as it did. -/
def bracketPairsSpec : ChangeSpec := { name := "bracketPairs", fn := fun _ => fun
  | [d1, d2] => { results := [.lit (.bool true)], args := [d1, d2] }
  | _ => none }
def bracketPairsRow : OpenClaim := { program := "ytncabdcaamkhiaa", sum := "1612870add34bc52a29d3a39711de6369917ba08dabec42ce9ebc6ac54f38763", func := "colophon/colophonlaw10.BracketPairs", spec := "bracketPairs", unfollowed := true, recurses := true, apart := false }
def BracketPairsSaid : Prop := bracketPairsRow.holds Try.pinned (OpenSpec.ofChange bracketPairsSpec)

/-- ITS FALSE NEIGHBOUR: 'it returns false'. Refute it at one input. -/
def bracketPairsWrong : ChangeSpec := { name := "bracketPairs", fn := fun _ => fun
  | [d1, d2] => { results := [.lit (.bool false)], args := [d1, d2] }
  | _ => none }
def BracketPairsWrongFalsely : Prop := bracketPairsRow.holds Try.pinned (OpenSpec.ofChange bracketPairsWrong)

/-- 'colophonlaw10.BracketResolves': WHATEVER THE INPUT: true; the input reads as it did. -/
def bracketResolvesSpec : ChangeSpec := { name := "bracketResolves", fn := fun _ => fun
  | [d1, d2, d3] => { results := [.lit (.bool true)], args := [d1, d2, d3] }
  | _ => none }
def bracketResolvesRow : OpenClaim := { program := "ytncabdcaamkhiaa", sum := "1612870add34bc52a29d3a39711de6369917ba08dabec42ce9ebc6ac54f38763", func := "colophon/colophonlaw10.BracketResolves", spec := "bracketResolves", unfollowed := true, recurses := true, apart := false }
def BracketResolvesSaid : Prop := bracketResolvesRow.holds Try.pinned (OpenSpec.ofChange bracketResolvesSpec)

/-- ITS FALSE NEIGHBOUR: 'it returns false'. Refute it at one input. -/
def bracketResolvesWrong : ChangeSpec := { name := "bracketResolves", fn := fun _ => fun
  | [d1, d2, d3] => { results := [.lit (.bool false)], args := [d1, d2, d3] }
  | _ => none }
def BracketResolvesWrongFalsely : Prop := bracketResolvesRow.holds Try.pinned (OpenSpec.ofChange bracketResolvesWrong)

/-- 'colophonlaw10.BracketNest': WHATEVER THE INPUT: true; the input reads as it did. -/
def bracketNestSpec : ChangeSpec := { name := "bracketNest", fn := fun _ => fun
  | [d1, d2] => { results := [.lit (.bool true)], args := [d1, d2] }
  | _ => none }
def bracketNestRow : OpenClaim := { program := "ytncabdcaamkhiaa", sum := "1612870add34bc52a29d3a39711de6369917ba08dabec42ce9ebc6ac54f38763", func := "colophon/colophonlaw10.BracketNest", spec := "bracketNest", unfollowed := true, recurses := true, apart := false }
def BracketNestSaid : Prop := bracketNestRow.holds Try.pinned (OpenSpec.ofChange bracketNestSpec)

/-- ITS FALSE NEIGHBOUR: 'it returns false'. Refute it at one input. -/
def bracketNestWrong : ChangeSpec := { name := "bracketNest", fn := fun _ => fun
  | [d1, d2] => { results := [.lit (.bool false)], args := [d1, d2] }
  | _ => none }
def BracketNestWrongFalsely : Prop := bracketNestRow.holds Try.pinned (OpenSpec.ofChange bracketNestWrong)

/-- 'colophonlaw10.BracketKeeps': WHATEVER THE INPUT: true; the input reads as it did. -/
def bracketKeepsSpec : ChangeSpec := { name := "bracketKeeps", fn := fun _ => fun
  | [d1, d2, d3] => { results := [.lit (.bool true)], args := [d1, d2, d3] }
  | _ => none }
def bracketKeepsRow : OpenClaim := { program := "ytncabdcaamkhiaa", sum := "1612870add34bc52a29d3a39711de6369917ba08dabec42ce9ebc6ac54f38763", func := "colophon/colophonlaw10.BracketKeeps", spec := "bracketKeeps", unfollowed := true, recurses := true, apart := false }
def BracketKeepsSaid : Prop := bracketKeepsRow.holds Try.pinned (OpenSpec.ofChange bracketKeepsSpec)

/-- ITS FALSE NEIGHBOUR: 'it returns false'. Refute it at one input. -/
def bracketKeepsWrong : ChangeSpec := { name := "bracketKeeps", fn := fun _ => fun
  | [d1, d2, d3] => { results := [.lit (.bool false)], args := [d1, d2, d3] }
  | _ => none }
def BracketKeepsWrongFalsely : Prop := bracketKeepsRow.holds Try.pinned (OpenSpec.ofChange bracketKeepsWrong)

/-- 'colophonlaw10.BracketDeep': WHATEVER THE INPUT: true; the input reads as it did. -/
def bracketDeepSpec : ChangeSpec := { name := "bracketDeep", fn := fun _ => fun
  | [d1, d2] => { results := [.lit (.bool true)], args := [d1, d2] }
  | _ => none }
def bracketDeepRow : OpenClaim := { program := "ytncabdcaamkhiaa", sum := "1612870add34bc52a29d3a39711de6369917ba08dabec42ce9ebc6ac54f38763", func := "colophon/colophonlaw10.BracketDeep", spec := "bracketDeep", unfollowed := true, recurses := true, apart := false }
def BracketDeepSaid : Prop := bracketDeepRow.holds Try.pinned (OpenSpec.ofChange bracketDeepSpec)

/-- ITS FALSE NEIGHBOUR: 'it returns false'. Refute it at one input. -/
def bracketDeepWrong : ChangeSpec := { name := "bracketDeep", fn := fun _ => fun
  | [d1, d2] => { results := [.lit (.bool false)], args := [d1, d2] }
  | _ => none }
def BracketDeepWrongFalsely : Prop := bracketDeepRow.holds Try.pinned (OpenSpec.ofChange bracketDeepWrong)

/-- 'colophonlaw10.BracketInside': WHATEVER THE INPUT: true; the input reads as it did. -/
def bracketInsideSpec : ChangeSpec := { name := "bracketInside", fn := fun _ => fun
  | [d1, d2, d3] => { results := [.lit (.bool true)], args := [d1, d2, d3] }
  | _ => none }
def bracketInsideRow : OpenClaim := { program := "ytncabdcaamkhiaa", sum := "1612870add34bc52a29d3a39711de6369917ba08dabec42ce9ebc6ac54f38763", func := "colophon/colophonlaw10.BracketInside", spec := "bracketInside", unfollowed := true, recurses := true, apart := false }
def BracketInsideSaid : Prop := bracketInsideRow.holds Try.pinned (OpenSpec.ofChange bracketInsideSpec)

/-- ITS FALSE NEIGHBOUR: 'it returns false'. Refute it at one input. -/
def bracketInsideWrong : ChangeSpec := { name := "bracketInside", fn := fun _ => fun
  | [d1, d2, d3] => { results := [.lit (.bool false)], args := [d1, d2, d3] }
  | _ => none }
def BracketInsideWrongFalsely : Prop := bracketInsideRow.holds Try.pinned (OpenSpec.ofChange bracketInsideWrong)

/- THE SECOND FORM. 'bulk': how many values and letters a reading holds, each counted each time it is reached (what is shared counts as often as it is met; a slice's spare places count too). A statement '..UptoSaid' is the law's where the arguments, and the package variables that the reading takes, are together of bulk at most 1048576: NARROWER than '..Said'. Prove '..Said' where nothing that the law and all that it calls make is longer than what came in: it says more and counts as full. Else prove '..UptoSaid'. A law counts once. -/
mutual
def uptoBulk {H : Type} : DataW H → Nat
  | .lit (.string bytes) => bytes.length + 1
  | .lit _ => 1
  | .nil => 1
  | .ptr d => uptoBulk d + 1
  | .slice elems spare => uptoBulkAll elems + uptoBulkAll spare + 1
  | .agg parts => uptoBulkAll parts + 1
  | .iface _ d => uptoBulk d + 1
  | .map entries => uptoBulkEntries entries + 1
  | .held _ => 1
def uptoBulkAll {H : Type} : List (DataW H) → Nat
  | [] => 0
  | d :: r => uptoBulk d + uptoBulkAll r
def uptoBulkEntries {H : Type} : List (Lit × DataW H) → Nat
  | [] => 0
  | x :: r => uptoBulkEntry x + uptoBulkEntries r
def uptoBulkEntry {H : Type} : Lit × DataW H → Nat
  | (.string bytes, d) => bytes.length + uptoBulk d + 1
  | (_, d) => uptoBulk d + 1
 end
def uptoSmall : (H : Type) → List (DataW H) → Bool := fun _ ds => decide (uptoBulkAll ds ≤ 1048576)
def OpenSpec.upto (s : _root_.Go.ChangeSpec) : _root_.Go.OpenSpec := { _root_.Go.OpenSpec.ofChange s with cond := some uptoSmall }

/-- 'colophonlaw10.BracketPairs', WHERE WHAT IT READS IS OF BULK AT MOST 1048576: true; the input reads as it did. -/
def bracketPairsUptoRow : OpenClaim := { program := "ytncabdcaamkhiaa", sum := "1612870add34bc52a29d3a39711de6369917ba08dabec42ce9ebc6ac54f38763", func := "colophon/colophonlaw10.BracketPairs", spec := "bracketPairs", unfollowed := true, recurses := true, apart := false, narrowed := true }
def BracketPairsUptoSaid : Prop := bracketPairsUptoRow.holds Try.pinned (OpenSpec.upto bracketPairsSpec)

/-- 'colophonlaw10.BracketResolves', WHERE WHAT IT READS IS OF BULK AT MOST 1048576: true; the input reads as it did. -/
def bracketResolvesUptoRow : OpenClaim := { program := "ytncabdcaamkhiaa", sum := "1612870add34bc52a29d3a39711de6369917ba08dabec42ce9ebc6ac54f38763", func := "colophon/colophonlaw10.BracketResolves", spec := "bracketResolves", unfollowed := true, recurses := true, apart := false, narrowed := true }
def BracketResolvesUptoSaid : Prop := bracketResolvesUptoRow.holds Try.pinned (OpenSpec.upto bracketResolvesSpec)

/-- 'colophonlaw10.BracketNest', WHERE WHAT IT READS IS OF BULK AT MOST 1048576: true; the input reads as it did. -/
def bracketNestUptoRow : OpenClaim := { program := "ytncabdcaamkhiaa", sum := "1612870add34bc52a29d3a39711de6369917ba08dabec42ce9ebc6ac54f38763", func := "colophon/colophonlaw10.BracketNest", spec := "bracketNest", unfollowed := true, recurses := true, apart := false, narrowed := true }
def BracketNestUptoSaid : Prop := bracketNestUptoRow.holds Try.pinned (OpenSpec.upto bracketNestSpec)

/-- 'colophonlaw10.BracketKeeps', WHERE WHAT IT READS IS OF BULK AT MOST 1048576: true; the input reads as it did. -/
def bracketKeepsUptoRow : OpenClaim := { program := "ytncabdcaamkhiaa", sum := "1612870add34bc52a29d3a39711de6369917ba08dabec42ce9ebc6ac54f38763", func := "colophon/colophonlaw10.BracketKeeps", spec := "bracketKeeps", unfollowed := true, recurses := true, apart := false, narrowed := true }
def BracketKeepsUptoSaid : Prop := bracketKeepsUptoRow.holds Try.pinned (OpenSpec.upto bracketKeepsSpec)

/-- 'colophonlaw10.BracketDeep', WHERE WHAT IT READS IS OF BULK AT MOST 1048576: true; the input reads as it did. -/
def bracketDeepUptoRow : OpenClaim := { program := "ytncabdcaamkhiaa", sum := "1612870add34bc52a29d3a39711de6369917ba08dabec42ce9ebc6ac54f38763", func := "colophon/colophonlaw10.BracketDeep", spec := "bracketDeep", unfollowed := true, recurses := true, apart := false, narrowed := true }
def BracketDeepUptoSaid : Prop := bracketDeepUptoRow.holds Try.pinned (OpenSpec.upto bracketDeepSpec)

/-- 'colophonlaw10.BracketInside', WHERE WHAT IT READS IS OF BULK AT MOST 1048576: true; the input reads as it did. -/
def bracketInsideUptoRow : OpenClaim := { program := "ytncabdcaamkhiaa", sum := "1612870add34bc52a29d3a39711de6369917ba08dabec42ce9ebc6ac54f38763", func := "colophon/colophonlaw10.BracketInside", spec := "bracketInside", unfollowed := true, recurses := true, apart := false, narrowed := true }
def BracketInsideUptoSaid : Prop := bracketInsideUptoRow.holds Try.pinned (OpenSpec.upto bracketInsideSpec)

end Rows
end Go.Proofs.Ytncabdcaamkhiaa
