/- The pure statement of the law ScoreOrder; conditions: none beyond the statement's own. -/
import Derived.Test.YtbbnnjcdglplkaaPS2
namespace Go.Proofs.Ytbbnnjcdglplkaa.Pure
open Go.RowKit
theorem ScoreOrder (a0_0 : Int) (a0_1 : Int) (a1 : Int) (a2 : Int) (a3 : Int) (_h0 : (Lit.int .i64 a0_0).wf = true) (_h1 : (Lit.int .i64 a0_1).wf = true) (_h2 : (Lit.int .i64 a1).wf = true) (_h3 : (Lit.int .i64 a2).wf = true) (_h4 : (Lit.int .i64 a3).wf = true) : ∃ k, KS.plummetlaw17_ScoreOrder.f k a0_0 a0_1 a1 a2 a3 = some true := PS.orders a0_0 a0_1 a1 a2 a3
end Go.Proofs.Ytbbnnjcdglplkaa.Pure
