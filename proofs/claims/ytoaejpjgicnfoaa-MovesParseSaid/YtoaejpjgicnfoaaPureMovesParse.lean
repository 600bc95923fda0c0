/- The pure statement of the law MovesParse; conditions: none beyond the statement's own. -/
import Derived.Test.YtoaejpjgicnfoaaPM2
namespace Go.Proofs.Ytoaejpjgicnfoaa.Pure
open Go.RowKit
theorem MovesParse (a0_0 : Int) (a0_1 : Int) (a1 : ByteArray) (_h0 : (Lit.int .i64 a0_0).wf = true) (_h1 : (Lit.int .i64 a0_1).wf = true) (h2 : a1.size ≤ 140737488351232) : ∃ k, KM.plummetlaw07_MovesParse.f k a0_0 a0_1 a1 = some true := PM.parses a0_0 a0_1 a1 h2
end Go.Proofs.Ytoaejpjgicnfoaa.Pure
