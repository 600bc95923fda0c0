/- The pure statement of the law ScoreRange; conditions: none beyond the statement's own. -/
import Derived.Test.YtbbnnjcdglplkaaPS2
namespace Go.Proofs.Ytbbnnjcdglplkaa.Pure
open Go.RowKit
theorem ScoreRange (a0_0 : Int) (a0_1 : Int) (a1 : Int) (a2 : Int) (_h0 : (Lit.int .i64 a0_0).wf = true) (_h1 : (Lit.int .i64 a0_1).wf = true) (_h2 : (Lit.int .i64 a1).wf = true) (_h3 : (Lit.int .i64 a2).wf = true) : ∃ k, KS.plummetlaw17_ScoreRange.f k a0_0 a0_1 a1 a2 = some true := PS.ranges a0_0 a0_1 a1 a2
end Go.Proofs.Ytbbnnjcdglplkaa.Pure
