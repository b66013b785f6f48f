/-
  No cell of these rows narrows 'for every input' (looked for: loops, veiled, ifaces, maps, wideKeys, modest, calm, conditions, laid).
  DERIVED. THE GIVEN ROWS OF THIS SEAT. 6 by the template 'for every input the law returns true; each argument reads behind the call as it read before'; 0 by the template 'total and deterministic' (their statements: YtckajjoliiefdaaTotals.lean).
  GIVEN WITH THE SEED: the statements are not yours to turn. If you find one false, say at which input.
  Laid BY PROGRAM, IN A SANDBOX (cutbox-rows.mjs): the forced cells as the released guide's own fill.sh prints them over the translation f440015419e2f8d9… (all of the seat's roots in one cut). By AI agents, Wed Nov 11 2026. No macro, syntax, notation, axiom, sorry.
-/
import Derived.Test.YtckajjoliiefdaaChecked
import GoSem.Claim
import GoSem.ClaimJoined
import GoSem.ClaimMapViews
import Derived.JoinedTies
import Derived.KernelRfl
namespace Go.Proofs.Ytckajjoliiefdaa
/- THE CELL 'sum', in the pinned program and in every row, IS THE sha256 OF THE DUMP (.gsa) THAT YtckajjoliiefdaaProg.lean LOADS. Nothing in Lean hashes anything: it is a label: what it is worth is what the hold of that sum in a sandbox is worth. -/
noncomputable def Try.pinned : Pinned := { name := "ytckajjoliiefdaa", sum := "f440015419e2f8d9f9820ebf80e14821a3b6cb4d03b340305d7ec21c056c6912", checked := Try.checked }
namespace Rows
def none {H : Type} : Left H := { results := [], args := [] }

/-- 'colophonlaw09.WeakResolves': WHATEVER THE INPUT: true; the input reads as it did. -/
def weakResolvesSpec : ChangeSpec := { name := "weakResolves", fn := fun _ => fun
  | [d1, d2] => { results := [.lit (.bool true)], args := [d1, d2] }
  | _ => none }
def weakResolvesRow : OpenClaim := { program := "ytckajjoliiefdaa", sum := "f440015419e2f8d9f9820ebf80e14821a3b6cb4d03b340305d7ec21c056c6912", func := "colophon/colophonlaw09.WeakResolves", spec := "weakResolves", unfollowed := true, recurses := true, apart := false }
def WeakResolvesSaid : Prop := weakResolvesRow.holds Try.pinned (OpenSpec.ofChange weakResolvesSpec)

/-- ITS FALSE NEIGHBOUR: 'it returns false'. Refute it at one input. -/
def weakResolvesWrong : ChangeSpec := { name := "weakResolves", fn := fun _ => fun
  | [d1, d2] => { results := [.lit (.bool false)], args := [d1, d2] }
  | _ => none }
def WeakResolvesWrongFalsely : Prop := weakResolvesRow.holds Try.pinned (OpenSpec.ofChange weakResolvesWrong)

/-- 'colophonlaw09.WeakGone': WHATEVER THE INPUT: true; the input reads as it did. -/
def weakGoneSpec : ChangeSpec := { name := "weakGone", fn := fun _ => fun
  | [d1, d2] => { results := [.lit (.bool true)], args := [d1, d2] }
  | _ => none }
def weakGoneRow : OpenClaim := { program := "ytckajjoliiefdaa", sum := "f440015419e2f8d9f9820ebf80e14821a3b6cb4d03b340305d7ec21c056c6912", func := "colophon/colophonlaw09.WeakGone", spec := "weakGone", unfollowed := true, recurses := true, apart := false }
def WeakGoneSaid : Prop := weakGoneRow.holds Try.pinned (OpenSpec.ofChange weakGoneSpec)

/-- ITS FALSE NEIGHBOUR: 'it returns false'. Refute it at one input. -/
def weakGoneWrong : ChangeSpec := { name := "weakGone", fn := fun _ => fun
  | [d1, d2] => { results := [.lit (.bool false)], args := [d1, d2] }
  | _ => none }
def WeakGoneWrongFalsely : Prop := weakGoneRow.holds Try.pinned (OpenSpec.ofChange weakGoneWrong)

/-- 'colophonlaw09.WeakTwice': WHATEVER THE INPUT: true; the input reads as it did. -/
def weakTwiceSpec : ChangeSpec := { name := "weakTwice", fn := fun _ => fun
  | [d1, d2] => { results := [.lit (.bool true)], args := [d1, d2] }
  | _ => none }
def weakTwiceRow : OpenClaim := { program := "ytckajjoliiefdaa", sum := "f440015419e2f8d9f9820ebf80e14821a3b6cb4d03b340305d7ec21c056c6912", func := "colophon/colophonlaw09.WeakTwice", spec := "weakTwice", unfollowed := true, recurses := true, apart := false }
def WeakTwiceSaid : Prop := weakTwiceRow.holds Try.pinned (OpenSpec.ofChange weakTwiceSpec)

/-- ITS FALSE NEIGHBOUR: 'it returns false'. Refute it at one input. -/
def weakTwiceWrong : ChangeSpec := { name := "weakTwice", fn := fun _ => fun
  | [d1, d2] => { results := [.lit (.bool false)], args := [d1, d2] }
  | _ => none }
def WeakTwiceWrongFalsely : Prop := weakTwiceRow.holds Try.pinned (OpenSpec.ofChange weakTwiceWrong)

/-- 'colophonlaw09.WeakSteps': WHATEVER THE INPUT: true; the input reads as it did. -/
def weakStepsSpec : ChangeSpec := { name := "weakSteps", fn := fun _ => fun
  | [d1, d2, d3] => { results := [.lit (.bool true)], args := [d1, d2, d3] }
  | _ => none }
def weakStepsRow : OpenClaim := { program := "ytckajjoliiefdaa", sum := "f440015419e2f8d9f9820ebf80e14821a3b6cb4d03b340305d7ec21c056c6912", func := "colophon/colophonlaw09.WeakSteps", spec := "weakSteps", unfollowed := true, recurses := true, apart := false }
def WeakStepsSaid : Prop := weakStepsRow.holds Try.pinned (OpenSpec.ofChange weakStepsSpec)

/-- ITS FALSE NEIGHBOUR: 'it returns false'. Refute it at one input. -/
def weakStepsWrong : ChangeSpec := { name := "weakSteps", fn := fun _ => fun
  | [d1, d2, d3] => { results := [.lit (.bool false)], args := [d1, d2, d3] }
  | _ => none }
def WeakStepsWrongFalsely : Prop := weakStepsRow.holds Try.pinned (OpenSpec.ofChange weakStepsWrong)

/-- 'colophonlaw09.WeakChain': WHATEVER THE INPUT: true; the input reads as it did. -/
def weakChainSpec : ChangeSpec := { name := "weakChain", fn := fun _ => fun
  | [d1, d2] => { results := [.lit (.bool true)], args := [d1, d2] }
  | _ => none }
def weakChainRow : OpenClaim := { program := "ytckajjoliiefdaa", sum := "f440015419e2f8d9f9820ebf80e14821a3b6cb4d03b340305d7ec21c056c6912", func := "colophon/colophonlaw09.WeakChain", spec := "weakChain", unfollowed := true, recurses := true, apart := false }
def WeakChainSaid : Prop := weakChainRow.holds Try.pinned (OpenSpec.ofChange weakChainSpec)

/-- ITS FALSE NEIGHBOUR: 'it returns false'. Refute it at one input. -/
def weakChainWrong : ChangeSpec := { name := "weakChain", fn := fun _ => fun
  | [d1, d2] => { results := [.lit (.bool false)], args := [d1, d2] }
  | _ => none }
def WeakChainWrongFalsely : Prop := weakChainRow.holds Try.pinned (OpenSpec.ofChange weakChainWrong)

/-- 'colophonlaw09.WeakNumbers': WHATEVER THE INPUT: true; the input reads as it did. -/
def weakNumbersSpec : ChangeSpec := { name := "weakNumbers", fn := fun _ => fun
  | [d1, d2] => { results := [.lit (.bool true)], args := [d1, d2] }
  | _ => none }
def weakNumbersRow : OpenClaim := { program := "ytckajjoliiefdaa", sum := "f440015419e2f8d9f9820ebf80e14821a3b6cb4d03b340305d7ec21c056c6912", func := "colophon/colophonlaw09.WeakNumbers", spec := "weakNumbers", unfollowed := true, recurses := true, apart := false }
def WeakNumbersSaid : Prop := weakNumbersRow.holds Try.pinned (OpenSpec.ofChange weakNumbersSpec)

/-- ITS FALSE NEIGHBOUR: 'it returns false'. Refute it at one input. -/
def weakNumbersWrong : ChangeSpec := { name := "weakNumbers", fn := fun _ => fun
  | [d1, d2] => { results := [.lit (.bool false)], args := [d1, d2] }
  | _ => none }
def WeakNumbersWrongFalsely : Prop := weakNumbersRow.holds Try.pinned (OpenSpec.ofChange weakNumbersWrong)

/- THE SECOND FORM. 'bulk': how many values and letters a reading holds, each counted each time it is reached (what is shared counts as often as it is met; a slice's spare places count too). A statement '..UptoSaid' is the law's where the arguments, and the package variables that the reading takes, are together of bulk at most 1048576: NARROWER than '..Said'. Prove '..Said' where nothing that the law and all that it calls make is longer than what came in: it says more and counts as full. Else prove '..UptoSaid'. A law counts once. -/
mutual
def uptoBulk {H : Type} : DataW H → Nat
  | .lit (.string bytes) => bytes.length + 1
  | .lit _ => 1
  | .nil => 1
  | .ptr d => uptoBulk d + 1
  | .slice elems spare => uptoBulkAll elems + uptoBulkAll spare + 1
  | .agg parts => uptoBulkAll parts + 1
  | .iface _ d => uptoBulk d + 1
  | .map entries => uptoBulkEntries entries + 1
  | .held _ => 1
def uptoBulkAll {H : Type} : List (DataW H) → Nat
  | [] => 0
  | d :: r => uptoBulk d + uptoBulkAll r
def uptoBulkEntries {H : Type} : List (Lit × DataW H) → Nat
  | [] => 0
  | x :: r => uptoBulkEntry x + uptoBulkEntries r
def uptoBulkEntry {H : Type} : Lit × DataW H → Nat
  | (.string bytes, d) => bytes.length + uptoBulk d + 1
  | (_, d) => uptoBulk d + 1
 end
def uptoSmall : (H : Type) → List (DataW H) → Bool := fun _ ds => decide (uptoBulkAll ds ≤ 1048576)
def OpenSpec.upto (s : _root_.Go.ChangeSpec) : _root_.Go.OpenSpec := { _root_.Go.OpenSpec.ofChange s with cond := some uptoSmall }

/-- 'colophonlaw09.WeakResolves', WHERE WHAT IT READS IS OF BULK AT MOST 1048576: true; the input reads as it did. -/
def weakResolvesUptoRow : OpenClaim := { program := "ytckajjoliiefdaa", sum := "f440015419e2f8d9f9820ebf80e14821a3b6cb4d03b340305d7ec21c056c6912", func := "colophon/colophonlaw09.WeakResolves", spec := "weakResolves", unfollowed := true, recurses := true, apart := false, narrowed := true }
def WeakResolvesUptoSaid : Prop := weakResolvesUptoRow.holds Try.pinned (OpenSpec.upto weakResolvesSpec)

/-- 'colophonlaw09.WeakGone', WHERE WHAT IT READS IS OF BULK AT MOST 1048576: true; the input reads as it did. -/
def weakGoneUptoRow : OpenClaim := { program := "ytckajjoliiefdaa", sum := "f440015419e2f8d9f9820ebf80e14821a3b6cb4d03b340305d7ec21c056c6912", func := "colophon/colophonlaw09.WeakGone", spec := "weakGone", unfollowed := true, recurses := true, apart := false, narrowed := true }
def WeakGoneUptoSaid : Prop := weakGoneUptoRow.holds Try.pinned (OpenSpec.upto weakGoneSpec)

/-- 'colophonlaw09.WeakTwice', WHERE WHAT IT READS IS OF BULK AT MOST 1048576: true; the input reads as it did. -/
def weakTwiceUptoRow : OpenClaim := { program := "ytckajjoliiefdaa", sum := "f440015419e2f8d9f9820ebf80e14821a3b6cb4d03b340305d7ec21c056c6912", func := "colophon/colophonlaw09.WeakTwice", spec := "weakTwice", unfollowed := true, recurses := true, apart := false, narrowed := true }
def WeakTwiceUptoSaid : Prop := weakTwiceUptoRow.holds Try.pinned (OpenSpec.upto weakTwiceSpec)

/-- 'colophonlaw09.WeakSteps', WHERE WHAT IT READS IS OF BULK AT MOST 1048576: true; the input reads as it did. -/
def weakStepsUptoRow : OpenClaim := { program := "ytckajjoliiefdaa", sum := "f440015419e2f8d9f9820ebf80e14821a3b6cb4d03b340305d7ec21c056c6912", func := "colophon/colophonlaw09.WeakSteps", spec := "weakSteps", unfollowed := true, recurses := true, apart := false, narrowed := true }
def WeakStepsUptoSaid : Prop := weakStepsUptoRow.holds Try.pinned (OpenSpec.upto weakStepsSpec)

/-- 'colophonlaw09.WeakChain', WHERE WHAT IT READS IS OF BULK AT MOST 1048576: true; the input reads as it did. -/
def weakChainUptoRow : OpenClaim := { program := "ytckajjoliiefdaa", sum := "f440015419e2f8d9f9820ebf80e14821a3b6cb4d03b340305d7ec21c056c6912", func := "colophon/colophonlaw09.WeakChain", spec := "weakChain", unfollowed := true, recurses := true, apart := false, narrowed := true }
def WeakChainUptoSaid : Prop := weakChainUptoRow.holds Try.pinned (OpenSpec.upto weakChainSpec)

/-- 'colophonlaw09.WeakNumbers', WHERE WHAT IT READS IS OF BULK AT MOST 1048576: true; the input reads as it did. -/
def weakNumbersUptoRow : OpenClaim := { program := "ytckajjoliiefdaa", sum := "f440015419e2f8d9f9820ebf80e14821a3b6cb4d03b340305d7ec21c056c6912", func := "colophon/colophonlaw09.WeakNumbers", spec := "weakNumbers", unfollowed := true, recurses := true, apart := false, narrowed := true }
def WeakNumbersUptoSaid : Prop := weakNumbersUptoRow.holds Try.pinned (OpenSpec.upto weakNumbersSpec)

end Rows
end Go.Proofs.Ytckajjoliiefdaa
