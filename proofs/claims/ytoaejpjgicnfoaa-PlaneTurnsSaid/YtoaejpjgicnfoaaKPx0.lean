/- Written by a program of this session: Go functions as plain Lean functions, and that the calls answer as they do; conditions: what each function is not told of (none) is not claimed. -/
import Derived.Test.YtoaejpjgicnfoaaProg
import Derived.Test.YtoaejpjgicnfoaaKP0x
import Derived.Below
import Derived.Deep.Draws
import Derived.Deep.AppendLies
import Derived.Maps.AppendAt
import Derived.OwnWalk
import Derived.Laws.BytesArg
import Derived.Laws.MakeOwn
import Derived.Laws.OwnMore
import Derived.Deep.OwnRows
import Derived.Tactics
import Derived.Lib.ConvBytes
import Derived.Laws.Slices
import Derived.WalkKit
import Derived.KernelRfl
import Derived.RowKit3
import Derived.Deep.LoopGhost
import Derived.Deep.QuietTactic
import Derived.BigQuiet
import Derived.WideLaws
import Derived.Deep.DeepCutAuto
import Derived.Deep.CutBlock
import Derived.Deep.RegionHeld3
import Derived.Laws.Rows
import Derived.Lib.AppendStr
import Derived.ArgAppend
import Derived.Laws.IdiomCopy
import Derived.OrdersHeld
import Derived.Laws.BitsLemmas
import Derived.RowKit
import Derived.Test.YtoaejpjgicnfoaaPlane6
import Derived.Test.YtoaejpjgicnfoaaWWords
import Derived.Test.YtoaejpjgicnfoaaWLast
import Derived.Test.YtoaejpjgicnfoaaWTab
import Derived.Test.YtoaejpjgicnfoaaWFour
import Derived.Test.YtoaejpjgicnfoaaWQPut
import Derived.Test.YtoaejpjgicnfoaaWApart
import Derived.Test.YtoaejpjgicnfoaaWArr
import Derived.Test.YtoaejpjgicnfoaaWZeros
import Derived.Test.YtoaejpjgicnfoaaWFoot
import Derived.Test.YtoaejpjgicnfoaaWKept
import Derived.Test.YtoaejpjgicnfoaaWShare
import Derived.Test.YtoaejpjgicnfoaaWN
import Derived.Test.YtoaejpjgicnfoaaWFootNe
import Derived.Test.YtoaejpjgicnfoaaWAt
import Derived.Test.YtoaejpjgicnfoaaWEqStruct
import Derived.Test.YtoaejpjgicnfoaaWRepsOne
import Derived.Test.YtoaejpjgicnfoaaWInv
import Derived.Test.YtoaejpjgicnfoaaWInvWords
import Derived.Test.YtoaejpjgicnfoaaWGuard
import Derived.Test.YtoaejpjgicnfoaaWNEv
import Derived.Test.YtoaejpjgicnfoaaWMore
namespace Go.Proofs.Ytoaejpjgicnfoaa.KP
open Go.RowKit Go.Proofs.Ytoaejpjgicnfoaa.Given Go.Proofs.Ytoaejpjgicnfoaa.KP0 Go.Proofs.YtoaejpjgicnfoaaW.PrintWords Go.Proofs.YtoaejpjgicnfoaaW.PrintLast Go.Proofs.YtoaejpjgicnfoaaW.PrintMore
attribute [local go_sem] max2_int min2_int max_two min_two max_three min_three max_four min_four   -- for this text's walks alone
set_option linter.unusedVariables false
set_option linter.unusedSimpArgs false



-- the values' own types
/-! #### struct type 40 -/
end Go.Proofs.Ytoaejpjgicnfoaa.KP
