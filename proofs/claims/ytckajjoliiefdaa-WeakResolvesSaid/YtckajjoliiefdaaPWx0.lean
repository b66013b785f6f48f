-- written by xp.py (a program of this session's own) over the kit's printer; not trusted: Lean checks it
import Derived.Test.YtckajjoliiefdaaProg
import Derived.Below
import Derived.Deep.Draws
import Derived.Deep.AppendLies
import Derived.Maps.AppendAt
import Derived.OwnWalk
import Derived.Laws.BytesArg
import Derived.Laws.MakeOwn
import Derived.Laws.OwnMore
import Derived.Deep.OwnRows
import Derived.Tactics
import Derived.Lib.ConvBytes
import Derived.Laws.Slices
import Derived.WalkKit
import Derived.KernelRfl
import Derived.RowKit3
import Derived.Deep.LoopGhost
import Derived.Deep.QuietTactic
import Derived.BigQuiet
import Derived.WideLaws
import Derived.Deep.DeepCutAuto
import Derived.Deep.CutBlock
import Derived.Deep.RegionHeld3
import Derived.Laws.Rows
import Derived.Lib.AppendStr
import Derived.ArgAppend
import Derived.Laws.IdiomCopy
import Derived.OrdersHeld
import Derived.Laws.BitsLemmas
import Derived.RowKit
import Derived.Test.YtckajjoliiefdaaWWords
import Derived.Test.YtckajjoliiefdaaWLast
import Derived.Test.YtckajjoliiefdaaWTab
import Derived.Test.YtckajjoliiefdaaWFour
import Derived.Test.YtckajjoliiefdaaWQPut
import Derived.Test.YtckajjoliiefdaaWApart
import Derived.Test.YtckajjoliiefdaaWArr
import Derived.Test.YtckajjoliiefdaaWZeros
import Derived.Test.YtckajjoliiefdaaWFoot
import Derived.Test.YtckajjoliiefdaaWKept
import Derived.Test.YtckajjoliiefdaaWShare
import Derived.Test.YtckajjoliiefdaaWN
import Derived.Test.YtckajjoliiefdaaWFootNe
import Derived.Test.YtckajjoliiefdaaWAt
import Derived.Test.YtckajjoliiefdaaWEqStruct
import Derived.Test.YtckajjoliiefdaaWRepsOne
import Derived.Test.YtckajjoliiefdaaWInv
import Derived.Test.YtckajjoliiefdaaWInvWords
import Derived.Test.YtckajjoliiefdaaWGuard
import Derived.Test.YtckajjoliiefdaaWNEv
import Derived.Test.YtckajjoliiefdaaWMore
import Derived.Test.YtckajjoliiefdaaX
namespace Go.Proofs.Ytckajjoliiefdaa.PW
open Go.RowKit Go.Proofs.YtckajjoliiefdaaW.PrintWords Go.Proofs.YtckajjoliiefdaaW.PrintLast Go.Proofs.YtckajjoliiefdaaW.PrintMore
attribute [local go_sem] max2_int min2_int max_two min_two max_three min_three max_four min_four   -- for this text's walks alone
set_option linter.unusedVariables false
set_option linter.unusedSimpArgs false



def errW : Option Int → Value
  | none => .nilIface
  | some c => .iface 0 (.int .i64 c)
theorem errW_none : errW none = .nilIface := rfl
theorem errW_some (c : Int) : errW (some c) = .iface 0 (.int .i64 c) := rfl

theorem info3 : (Try.prog.info? 3).map (fun i => (i.zero, i.size, i.bytes)) = some (some (.int .i64 0), 1, 8) := by kernel_rfl
-- the values' own types

end Go.Proofs.Ytckajjoliiefdaa.PW
