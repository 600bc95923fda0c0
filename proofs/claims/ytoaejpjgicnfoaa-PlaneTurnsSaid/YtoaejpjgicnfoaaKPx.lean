/- Written by a program of this session: Go functions as plain Lean functions, and that the calls answer as they do; conditions: what each function is not told of (none) is not claimed. -/
import Derived.Test.YtoaejpjgicnfoaaKPx0
import Derived.Test.YtoaejpjgicnfoaaKPx1
import Derived.Test.YtoaejpjgicnfoaaKPx2
import Derived.Test.YtoaejpjgicnfoaaKPx3
import Derived.Test.YtoaejpjgicnfoaaKPx4
import Derived.Test.YtoaejpjgicnfoaaKPx5
namespace Go.Proofs.Ytoaejpjgicnfoaa.KP
open Go.RowKit Go.Proofs.Ytoaejpjgicnfoaa.Given Go.Proofs.Ytoaejpjgicnfoaa.KP0 Go.Proofs.YtoaejpjgicnfoaaW.PrintWords Go.Proofs.YtoaejpjgicnfoaaW.PrintLast Go.Proofs.YtoaejpjgicnfoaaW.PrintMore
attribute [local go_sem] max2_int min2_int max_two min_two max_three min_three max_four min_four   -- for this text's walks alone
set_option linter.unusedVariables false
set_option linter.unusedSimpArgs false

end Go.Proofs.Ytoaejpjgicnfoaa.KP
