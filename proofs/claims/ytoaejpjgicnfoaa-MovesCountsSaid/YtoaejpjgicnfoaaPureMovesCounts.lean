/- The pure statement of the law MovesCounts; conditions: none beyond the statement's own. -/
import Derived.Test.YtoaejpjgicnfoaaPM3
namespace Go.Proofs.Ytoaejpjgicnfoaa.Pure
open Go.RowKit
theorem MovesCounts (a0_0 : Int) (a0_1 : Int) (l1 : List Int) (_h0 : (Lit.int .i64 a0_0).wf = true) (_h1 : (Lit.int .i64 a0_1).wf = true) (h2 : l1.length ≤ maxLen) (_h3 : l1.length * 8 ≤ 140737488351232) (_h4 : (∀ x ∈ l1, (Lit.int .i64 x).wf = true)) : ∃ k, KM.plummetlaw07_MovesCounts.f k a0_0 a0_1 l1 = some true := PM.countss a0_0 a0_1 l1 h2
end Go.Proofs.Ytoaejpjgicnfoaa.Pure
