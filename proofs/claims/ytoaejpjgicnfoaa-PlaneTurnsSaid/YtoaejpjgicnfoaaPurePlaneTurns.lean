/- The pure statement of the law PlaneTurns; conditions: none beyond the statement's own. -/
import Derived.Test.YtoaejpjgicnfoaaPP3
namespace Go.Proofs.Ytoaejpjgicnfoaa.Pure
open Go.RowKit
theorem PlaneTurns (a0_0 : Int) (a0_1 : Int) (a1_0 : Int) (a1_1 : Int) (a2 : Int) (_h0 : (Lit.int .i64 a0_0).wf = true) (_h1 : (Lit.int .i64 a0_1).wf = true) (_h2 : (Lit.int .i64 a1_0).wf = true) (_h3 : (Lit.int .i64 a1_1).wf = true) (_h4 : (Lit.int .i64 a2).wf = true) : ∃ k, KP.plummetlaw05_PlaneTurns.f k a0_0 a0_1 a1_0 a1_1 a2 = some true := KP.turns a0_0 a0_1 a1_0 a1_1 a2
end Go.Proofs.Ytoaejpjgicnfoaa.Pure
