/- The pure statement of the law BoardKinds; conditions: none beyond the statement's own. -/
import Derived.Test.YtbbnnjcdglplkaaPBK
namespace Go.Proofs.Ytbbnnjcdglplkaa.Pure
open Go.RowKit
theorem BoardKinds (a0 : Int) (h0 : (Lit.int .u8 a0).wf = true) : ∃ k, KK.plummetlaw06_BoardKinds.f k a0 = some true := KK.kindsLaw a0 h0
end Go.Proofs.Ytbbnnjcdglplkaa.Pure
