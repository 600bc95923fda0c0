/- Written by a program of this session: Go functions as plain Lean functions, and that the calls answer as they do; conditions: what each function is not told of (none) is not claimed. -/
import Derived.Test.YtnenmiaeomcdpaaProg
import Derived.Below
import Derived.Deep.Draws
import Derived.Deep.AppendLies
import Derived.Maps.AppendAt
import Derived.OwnWalk
import Derived.Laws.BytesArg
import Derived.Laws.MakeOwn
import Derived.Laws.OwnMore
import Derived.Deep.OwnRows
import Derived.Tactics
import Derived.Lib.ConvBytes
import Derived.Laws.Slices
import Derived.WalkKit
import Derived.KernelRfl
import Derived.RowKit3
import Derived.Deep.LoopGhost
import Derived.Deep.QuietTactic
import Derived.BigQuiet
import Derived.WideLaws
import Derived.Deep.DeepCutAuto
import Derived.Deep.CutBlock
import Derived.Deep.RegionHeld3
import Derived.Laws.Rows
import Derived.Lib.AppendStr
import Derived.ArgAppend
import Derived.Laws.IdiomCopy
import Derived.OrdersHeld
import Derived.Laws.BitsLemmas
import Derived.RowKit
import Derived.Test.YtnenmiaeomcdpaaWide1
import Derived.Test.YtnenmiaeomcdpaaWWords
import Derived.Test.YtnenmiaeomcdpaaWLast
import Derived.Test.YtnenmiaeomcdpaaWTab
import Derived.Test.YtnenmiaeomcdpaaWQPut
import Derived.Test.YtnenmiaeomcdpaaWApart
import Derived.Test.YtnenmiaeomcdpaaWArr
import Derived.Test.YtnenmiaeomcdpaaWZeros
import Derived.Test.YtnenmiaeomcdpaaWFoot
import Derived.Test.YtnenmiaeomcdpaaWKept
import Derived.Test.YtnenmiaeomcdpaaWShare
import Derived.Test.YtnenmiaeomcdpaaWN
import Derived.Test.YtnenmiaeomcdpaaWEqStruct
import Derived.Test.YtnenmiaeomcdpaaWRepsOne
import Derived.Test.YtnenmiaeomcdpaaWGuard
import Derived.Test.YtnenmiaeomcdpaaWNEv
import Derived.Test.YtnenmiaeomcdpaaWMore
namespace Go.Proofs.Ytnenmiaeomcdpaa.KW
open Go.RowKit Go.Proofs.Ytnenmiaeomcdpaa.Given Go.Proofs.YtnenmiaeomcdpaaW.PrintWords Go.Proofs.YtnenmiaeomcdpaaW.PrintLast Go.Proofs.YtnenmiaeomcdpaaW.PrintMore
attribute [local go_sem] max2_int min2_int max_two min_two max_three min_three max_four min_four   -- for this text's walks alone
set_option linter.unusedVariables false
set_option linter.unusedSimpArgs false



def errW : Option Int → Value
  | none => .nilIface
  | some c => .iface 0 (.int .i64 c)
theorem errW_none : errW none = .nilIface := rfl
theorem errW_some (c : Int) : errW (some c) = .iface 0 (.int .i64 c) := rfl

-- the values' own types

end Go.Proofs.Ytnenmiaeomcdpaa.KW
