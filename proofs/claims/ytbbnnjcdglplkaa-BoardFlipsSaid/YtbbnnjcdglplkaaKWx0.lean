/- Written by a program of this session: Go functions as plain Lean functions, and that the calls answer as they do; conditions: what each function is not told of (none) is not claimed. -/
import Derived.Test.YtbbnnjcdglplkaaProg
import Derived.Below
import Derived.Deep.Draws
import Derived.Deep.AppendLies
import Derived.Maps.AppendAt
import Derived.OwnWalk
import Derived.Laws.BytesArg
import Derived.Laws.MakeOwn
import Derived.Laws.OwnMore
import Derived.Deep.OwnRows
import Derived.Tactics
import Derived.Lib.ConvBytes
import Derived.Laws.Slices
import Derived.WalkKit
import Derived.KernelRfl
import Derived.RowKit3
import Derived.Deep.LoopGhost
import Derived.Deep.QuietTactic
import Derived.BigQuiet
import Derived.WideLaws
import Derived.Deep.DeepCutAuto
import Derived.Deep.CutBlock
import Derived.Deep.RegionHeld3
import Derived.Laws.Rows
import Derived.Lib.AppendStr
import Derived.ArgAppend
import Derived.Laws.IdiomCopy
import Derived.OrdersHeld
import Derived.Laws.BitsLemmas
import Derived.RowKit
import Derived.Test.YtbbnnjcdglplkaaWide1
import Derived.Test.YtbbnnjcdglplkaaWWords
import Derived.Test.YtbbnnjcdglplkaaWLast
import Derived.Test.YtbbnnjcdglplkaaWTab
import Derived.Test.YtbbnnjcdglplkaaWQPut
import Derived.Test.YtbbnnjcdglplkaaWApart
import Derived.Test.YtbbnnjcdglplkaaWArr
import Derived.Test.YtbbnnjcdglplkaaWZeros
import Derived.Test.YtbbnnjcdglplkaaWFoot
import Derived.Test.YtbbnnjcdglplkaaWKept
import Derived.Test.YtbbnnjcdglplkaaWShare
import Derived.Test.YtbbnnjcdglplkaaWN
import Derived.Test.YtbbnnjcdglplkaaWEqStruct
import Derived.Test.YtbbnnjcdglplkaaWGuard
import Derived.Test.YtbbnnjcdglplkaaWNEv
import Derived.Test.YtbbnnjcdglplkaaWMore
namespace Go.Proofs.Ytbbnnjcdglplkaa.KW
open Go.RowKit Go.Proofs.Ytbbnnjcdglplkaa.Given Go.Proofs.YtbbnnjcdglplkaaW.PrintWords Go.Proofs.YtbbnnjcdglplkaaW.PrintLast Go.Proofs.YtbbnnjcdglplkaaW.PrintMore
attribute [local go_sem] max2_int min2_int max_two min_two max_three min_three max_four min_four   -- for this text's walks alone
set_option linter.unusedVariables false
set_option linter.unusedSimpArgs false



def errW : Option Int → Value
  | none => .nilIface
  | some c => .iface 0 (.int .i64 c)
theorem errW_none : errW none = .nilIface := rfl
theorem errW_some (c : Int) : errW (some c) = .iface 0 (.int .i64 c) := rfl

-- the values' own types

end Go.Proofs.Ytbbnnjcdglplkaa.KW
