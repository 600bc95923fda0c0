/- The pure statement of the law PlaneLines; conditions: none beyond the statement's own. -/
import Derived.Test.YtoaejpjgicnfoaaPP3
namespace Go.Proofs.Ytoaejpjgicnfoaa.Pure
open Go.RowKit
theorem PlaneLines (a0_0 : Int) (a0_1 : Int) (a1 : Int) (a2 : Int) (_h0 : (Lit.int .i64 a0_0).wf = true) (_h1 : (Lit.int .i64 a0_1).wf = true) (_h2 : (Lit.int .i64 a1).wf = true) (_h3 : (Lit.int .i64 a2).wf = true) : ∃ k, KP.plummetlaw05_PlaneLines.f k a0_0 a0_1 a1 a2 = some true := KP.lines a0_0 a0_1 a1 a2
end Go.Proofs.Ytoaejpjgicnfoaa.Pure
