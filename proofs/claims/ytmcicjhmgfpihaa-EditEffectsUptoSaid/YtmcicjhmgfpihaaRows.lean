/-
  No cell of these rows narrows 'for every input' (looked for: loops, veiled, ifaces, maps, wideKeys, modest, calm, conditions, laid).
  DERIVED. THE GIVEN ROWS OF THIS SEAT. 5 by the template 'for every input the law returns true; each argument reads behind the call as it read before'; 0 by the template 'total and deterministic' (their statements: YtmcicjhmgfpihaaTotals.lean).
  GIVEN WITH THE SEED: the statements are not yours to turn. If you find one false, say at which input.
  Laid BY PROGRAM, IN A SANDBOX (cutbox-rows.mjs): the forced cells as the released guide's own fill.sh prints them over the translation ffa3c7ea06fd93eb… (all of the seat's roots in one cut). By AI agents, Wed Nov 11 2026. No macro, syntax, notation, axiom, sorry.
-/
import Derived.Test.YtmcicjhmgfpihaaChecked
import GoSem.Claim
import GoSem.ClaimJoined
import GoSem.ClaimMapViews
import Derived.JoinedTies
import Derived.KernelRfl
namespace Go.Proofs.Ytmcicjhmgfpihaa
/- THE CELL 'sum', in the pinned program and in every row, IS THE sha256 OF THE DUMP (.gsa) THAT YtmcicjhmgfpihaaProg.lean LOADS. Nothing in Lean hashes anything: it is a label: what it is worth is what the hold of that sum in a sandbox is worth. -/
noncomputable def Try.pinned : Pinned := { name := "ytmcicjhmgfpihaa", sum := "ffa3c7ea06fd93eb42480a145983b0d13d070565f1ec91c1e69b6aea69456e88", checked := Try.checked }
namespace Rows
def none {H : Type} : Left H := { results := [], args := [] }

/-- 'colophonlaw22.EditApplies': WHATEVER THE INPUT: true; the input reads as it did. -/
def editAppliesSpec : ChangeSpec := { name := "editApplies", fn := fun _ => fun
  | [d1, d2] => { results := [.lit (.bool true)], args := [d1, d2] }
  | _ => none }
def editAppliesRow : OpenClaim := { program := "ytmcicjhmgfpihaa", sum := "ffa3c7ea06fd93eb42480a145983b0d13d070565f1ec91c1e69b6aea69456e88", func := "colophon/colophonlaw22.EditApplies", spec := "editApplies", unfollowed := true, recurses := true, apart := false }
def EditAppliesSaid : Prop := editAppliesRow.holds Try.pinned (OpenSpec.ofChange editAppliesSpec)

/-- ITS FALSE NEIGHBOUR: 'it returns false'. Refute it at one input. -/
def editAppliesWrong : ChangeSpec := { name := "editApplies", fn := fun _ => fun
  | [d1, d2] => { results := [.lit (.bool false)], args := [d1, d2] }
  | _ => none }
def EditAppliesWrongFalsely : Prop := editAppliesRow.holds Try.pinned (OpenSpec.ofChange editAppliesWrong)

/-- 'colophonlaw22.EditEffects': WHATEVER THE INPUT: true; the input reads as it did. -/
def editEffectsSpec : ChangeSpec := { name := "editEffects", fn := fun _ => fun
  | [d1, d2, d3] => { results := [.lit (.bool true)], args := [d1, d2, d3] }
  | _ => none }
def editEffectsRow : OpenClaim := { program := "ytmcicjhmgfpihaa", sum := "ffa3c7ea06fd93eb42480a145983b0d13d070565f1ec91c1e69b6aea69456e88", func := "colophon/colophonlaw22.EditEffects", spec := "editEffects", unfollowed := true, recurses := true, apart := false }
def EditEffectsSaid : Prop := editEffectsRow.holds Try.pinned (OpenSpec.ofChange editEffectsSpec)

/-- ITS FALSE NEIGHBOUR: 'it returns false'. Refute it at one input. -/
def editEffectsWrong : ChangeSpec := { name := "editEffects", fn := fun _ => fun
  | [d1, d2, d3] => { results := [.lit (.bool false)], args := [d1, d2, d3] }
  | _ => none }
def EditEffectsWrongFalsely : Prop := editEffectsRow.holds Try.pinned (OpenSpec.ofChange editEffectsWrong)

/-- 'colophonlaw22.EditBack': WHATEVER THE INPUT: true; the input reads as it did. -/
def editBackSpec : ChangeSpec := { name := "editBack", fn := fun _ => fun
  | [d1, d2] => { results := [.lit (.bool true)], args := [d1, d2] }
  | _ => none }
def editBackRow : OpenClaim := { program := "ytmcicjhmgfpihaa", sum := "ffa3c7ea06fd93eb42480a145983b0d13d070565f1ec91c1e69b6aea69456e88", func := "colophon/colophonlaw22.EditBack", spec := "editBack", unfollowed := true, recurses := true, apart := false }
def EditBackSaid : Prop := editBackRow.holds Try.pinned (OpenSpec.ofChange editBackSpec)

/-- ITS FALSE NEIGHBOUR: 'it returns false'. Refute it at one input. -/
def editBackWrong : ChangeSpec := { name := "editBack", fn := fun _ => fun
  | [d1, d2] => { results := [.lit (.bool false)], args := [d1, d2] }
  | _ => none }
def EditBackWrongFalsely : Prop := editBackRow.holds Try.pinned (OpenSpec.ofChange editBackWrong)

/-- 'colophonlaw22.EditAll': WHATEVER THE INPUT: true; the input reads as it did. -/
def editAllSpec : ChangeSpec := { name := "editAll", fn := fun _ => fun
  | [d] => { results := [.lit (.bool true)], args := [d] }
  | _ => none }
def editAllRow : OpenClaim := { program := "ytmcicjhmgfpihaa", sum := "ffa3c7ea06fd93eb42480a145983b0d13d070565f1ec91c1e69b6aea69456e88", func := "colophon/colophonlaw22.EditAll", spec := "editAll", unfollowed := true, recurses := true, apart := false }
def EditAllSaid : Prop := editAllRow.holds Try.pinned (OpenSpec.ofChange editAllSpec)

/-- ITS FALSE NEIGHBOUR: 'it returns false'. Refute it at one input. -/
def editAllWrong : ChangeSpec := { name := "editAll", fn := fun _ => fun
  | [d] => { results := [.lit (.bool false)], args := [d] }
  | _ => none }
def EditAllWrongFalsely : Prop := editAllRow.holds Try.pinned (OpenSpec.ofChange editAllWrong)

/-- 'colophonlaw22.EditStays': WHATEVER THE INPUT: true; the input reads as it did. -/
def editStaysSpec : ChangeSpec := { name := "editStays", fn := fun _ => fun
  | [d1, d2] => { results := [.lit (.bool true)], args := [d1, d2] }
  | _ => none }
def editStaysRow : OpenClaim := { program := "ytmcicjhmgfpihaa", sum := "ffa3c7ea06fd93eb42480a145983b0d13d070565f1ec91c1e69b6aea69456e88", func := "colophon/colophonlaw22.EditStays", spec := "editStays", unfollowed := true, recurses := true, apart := false }
def EditStaysSaid : Prop := editStaysRow.holds Try.pinned (OpenSpec.ofChange editStaysSpec)

/-- ITS FALSE NEIGHBOUR: 'it returns false'. Refute it at one input. -/
def editStaysWrong : ChangeSpec := { name := "editStays", fn := fun _ => fun
  | [d1, d2] => { results := [.lit (.bool false)], args := [d1, d2] }
  | _ => none }
def EditStaysWrongFalsely : Prop := editStaysRow.holds Try.pinned (OpenSpec.ofChange editStaysWrong)

/- THE SECOND FORM. 'bulk': how many values and letters a reading holds, each counted each time it is reached (what is shared counts as often as it is met; a slice's spare places count too). A statement '..UptoSaid' is the law's where the arguments, and the package variables that the reading takes, are together of bulk at most 1048576: NARROWER than '..Said'. Prove '..Said' where nothing that the law and all that it calls make is longer than what came in: it says more and counts as full. Else prove '..UptoSaid'. A law counts once. -/
mutual
def uptoBulk {H : Type} : DataW H → Nat
  | .lit (.string bytes) => bytes.length + 1
  | .lit _ => 1
  | .nil => 1
  | .ptr d => uptoBulk d + 1
  | .slice elems spare => uptoBulkAll elems + uptoBulkAll spare + 1
  | .agg parts => uptoBulkAll parts + 1
  | .iface _ d => uptoBulk d + 1
  | .map entries => uptoBulkEntries entries + 1
  | .held _ => 1
def uptoBulkAll {H : Type} : List (DataW H) → Nat
  | [] => 0
  | d :: r => uptoBulk d + uptoBulkAll r
def uptoBulkEntries {H : Type} : List (Lit × DataW H) → Nat
  | [] => 0
  | x :: r => uptoBulkEntry x + uptoBulkEntries r
def uptoBulkEntry {H : Type} : Lit × DataW H → Nat
  | (.string bytes, d) => bytes.length + uptoBulk d + 1
  | (_, d) => uptoBulk d + 1
 end
def uptoSmall : (H : Type) → List (DataW H) → Bool := fun _ ds => decide (uptoBulkAll ds ≤ 1048576)
def OpenSpec.upto (s : _root_.Go.ChangeSpec) : _root_.Go.OpenSpec := { _root_.Go.OpenSpec.ofChange s with cond := some uptoSmall }

/-- 'colophonlaw22.EditApplies', WHERE WHAT IT READS IS OF BULK AT MOST 1048576: true; the input reads as it did. -/
def editAppliesUptoRow : OpenClaim := { program := "ytmcicjhmgfpihaa", sum := "ffa3c7ea06fd93eb42480a145983b0d13d070565f1ec91c1e69b6aea69456e88", func := "colophon/colophonlaw22.EditApplies", spec := "editApplies", unfollowed := true, recurses := true, apart := false, narrowed := true }
def EditAppliesUptoSaid : Prop := editAppliesUptoRow.holds Try.pinned (OpenSpec.upto editAppliesSpec)

/-- 'colophonlaw22.EditEffects', WHERE WHAT IT READS IS OF BULK AT MOST 1048576: true; the input reads as it did. -/
def editEffectsUptoRow : OpenClaim := { program := "ytmcicjhmgfpihaa", sum := "ffa3c7ea06fd93eb42480a145983b0d13d070565f1ec91c1e69b6aea69456e88", func := "colophon/colophonlaw22.EditEffects", spec := "editEffects", unfollowed := true, recurses := true, apart := false, narrowed := true }
def EditEffectsUptoSaid : Prop := editEffectsUptoRow.holds Try.pinned (OpenSpec.upto editEffectsSpec)

/-- 'colophonlaw22.EditBack', WHERE WHAT IT READS IS OF BULK AT MOST 1048576: true; the input reads as it did. -/
def editBackUptoRow : OpenClaim := { program := "ytmcicjhmgfpihaa", sum := "ffa3c7ea06fd93eb42480a145983b0d13d070565f1ec91c1e69b6aea69456e88", func := "colophon/colophonlaw22.EditBack", spec := "editBack", unfollowed := true, recurses := true, apart := false, narrowed := true }
def EditBackUptoSaid : Prop := editBackUptoRow.holds Try.pinned (OpenSpec.upto editBackSpec)

/-- 'colophonlaw22.EditAll', WHERE WHAT IT READS IS OF BULK AT MOST 1048576: true; the input reads as it did. -/
def editAllUptoRow : OpenClaim := { program := "ytmcicjhmgfpihaa", sum := "ffa3c7ea06fd93eb42480a145983b0d13d070565f1ec91c1e69b6aea69456e88", func := "colophon/colophonlaw22.EditAll", spec := "editAll", unfollowed := true, recurses := true, apart := false, narrowed := true }
def EditAllUptoSaid : Prop := editAllUptoRow.holds Try.pinned (OpenSpec.upto editAllSpec)

/-- 'colophonlaw22.EditStays', WHERE WHAT IT READS IS OF BULK AT MOST 1048576: true; the input reads as it did. -/
def editStaysUptoRow : OpenClaim := { program := "ytmcicjhmgfpihaa", sum := "ffa3c7ea06fd93eb42480a145983b0d13d070565f1ec91c1e69b6aea69456e88", func := "colophon/colophonlaw22.EditStays", spec := "editStays", unfollowed := true, recurses := true, apart := false, narrowed := true }
def EditStaysUptoSaid : Prop := editStaysUptoRow.holds Try.pinned (OpenSpec.upto editStaysSpec)

end Rows
end Go.Proofs.Ytmcicjhmgfpihaa
