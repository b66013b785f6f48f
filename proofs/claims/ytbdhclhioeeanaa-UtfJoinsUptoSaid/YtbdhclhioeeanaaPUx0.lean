-- written by xp.py (a program of this session's own) over the kit's printer; not trusted: Lean checks it
import Derived.Test.YtbdhclhioeeanaaProg
import Derived.Below
import Derived.Deep.Draws
import Derived.Deep.AppendLies
import Derived.Maps.AppendAt
import Derived.OwnWalk
import Derived.Laws.BytesArg
import Derived.Laws.MakeOwn
import Derived.Laws.OwnMore
import Derived.Deep.OwnRows
import Derived.Tactics
import Derived.Lib.ConvBytes
import Derived.Laws.Slices
import Derived.WalkKit
import Derived.KernelRfl
import Derived.RowKit3
import Derived.Deep.LoopGhost
import Derived.Deep.QuietTactic
import Derived.BigQuiet
import Derived.WideLaws
import Derived.Deep.DeepCutAuto
import Derived.Deep.CutBlock
import Derived.Deep.RegionHeld3
import Derived.Laws.Rows
import Derived.Lib.AppendStr
import Derived.ArgAppend
import Derived.Laws.IdiomCopy
import Derived.OrdersHeld
import Derived.Laws.BitsLemmas
import Derived.RowKit
import Derived.Test.YtbdhclhioeeanaaWWords
import Derived.Test.YtbdhclhioeeanaaWLast
import Derived.Test.YtbdhclhioeeanaaWTab
import Derived.Test.YtbdhclhioeeanaaWFour
import Derived.Test.YtbdhclhioeeanaaWQPut
import Derived.Test.YtbdhclhioeeanaaWApart
import Derived.Test.YtbdhclhioeeanaaWArr
import Derived.Test.YtbdhclhioeeanaaWZeros
import Derived.Test.YtbdhclhioeeanaaWFoot
import Derived.Test.YtbdhclhioeeanaaWKept
import Derived.Test.YtbdhclhioeeanaaWShare
import Derived.Test.YtbdhclhioeeanaaWN
import Derived.Test.YtbdhclhioeeanaaWFootNe
import Derived.Test.YtbdhclhioeeanaaWAt
import Derived.Test.YtbdhclhioeeanaaWEqStruct
import Derived.Test.YtbdhclhioeeanaaWRepsOne
import Derived.Test.YtbdhclhioeeanaaWInv
import Derived.Test.YtbdhclhioeeanaaWInvWords
import Derived.Test.YtbdhclhioeeanaaWGuard
import Derived.Test.YtbdhclhioeeanaaWNEv
import Derived.Test.YtbdhclhioeeanaaWMore
import Derived.Test.YtbdhclhioeeanaaX
namespace Go.Proofs.Ytbdhclhioeeanaa.PU
open Go.RowKit Go.Proofs.YtbdhclhioeeanaaW.PrintWords Go.Proofs.YtbdhclhioeeanaaW.PrintLast Go.Proofs.YtbdhclhioeeanaaW.PrintMore
attribute [local go_sem] max2_int min2_int max_two min_two max_three min_three max_four min_four   -- for this text's walks alone
set_option linter.unusedVariables false
set_option linter.unusedSimpArgs false



def errW : Option Int → Value
  | none => .nilIface
  | some c => .iface 0 (.int .i64 c)
theorem errW_none : errW none = .nilIface := rfl
theorem errW_some (c : Int) : errW (some c) = .iface 0 (.int .i64 c) := rfl

theorem info5 : (Try.prog.info? 5).map (fun i => (i.zero, i.size, i.bytes)) = some (some (.int .u8 0), 1, 1) := by kernel_rfl
theorem info21 : (Try.prog.info? 21).map (fun i => (i.zero, i.size, i.bytes)) = some (some (.int .i32 0), 1, 4) := by kernel_rfl
-- the values' own types

end Go.Proofs.Ytbdhclhioeeanaa.PU
