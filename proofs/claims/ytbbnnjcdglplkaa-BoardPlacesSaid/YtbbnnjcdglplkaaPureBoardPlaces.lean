/- The pure statement of the law BoardPlaces; conditions: none beyond the statement's own. -/
import Derived.Test.YtbbnnjcdglplkaaPBP
namespace Go.Proofs.Ytbbnnjcdglplkaa.Pure
open Go.RowKit
theorem BoardPlaces (a0_0 : Int) (a0_1 : Int) (a1_0 : Int) (a1_1 : Int) (a2 : Int) (_h0 : (Lit.int .i64 a0_0).wf = true) (_h1 : (Lit.int .i64 a0_1).wf = true) (_h2 : (Lit.int .i64 a1_0).wf = true) (_h3 : (Lit.int .i64 a1_1).wf = true) (_h4 : (Lit.int .i64 a2).wf = true) : ∃ k, KP.plummetlaw06_BoardPlaces.f k a0_0 a0_1 a1_0 a1_1 a2 = some true := KP.placesLaw a0_0 a0_1 a1_0 a1_1 a2
end Go.Proofs.Ytbbnnjcdglplkaa.Pure
