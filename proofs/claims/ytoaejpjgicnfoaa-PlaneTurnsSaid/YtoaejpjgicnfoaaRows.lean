/-
  No cell of these rows narrows 'for every input' (looked for: loops, veiled, ifaces, maps, wideKeys, modest, calm, conditions, laid).
  DERIVED. THE GIVEN ROWS OF THIS SEAT. 12 by the template 'for every input the law returns true; each argument reads behind the call as it read before'; 0 by the template 'total and deterministic' (their statements: YtoaejpjgicnfoaaTotals.lean).
  GIVEN WITH THE SEED: the statements are not yours to turn. If you find one false, say at which input.
  Laid BY PROGRAM, IN A SANDBOX (cutbox-rows.mjs): the forced cells as the released guide's own fill.sh prints them over the translation e3f4a6ce6047c99a… (all of the seat's roots in one cut). By AI agents, Wed Nov 11 2026. No macro, syntax, notation, axiom, sorry.
-/
import Derived.Test.YtoaejpjgicnfoaaChecked
import GoSem.Claim
import GoSem.ClaimJoined
import GoSem.ClaimMapViews
import Derived.JoinedTies
import Derived.KernelRfl
namespace Go.Proofs.Ytoaejpjgicnfoaa
/- THE CELL 'sum', in the pinned program and in every row, IS THE sha256 OF THE DUMP (.gsa) THAT YtoaejpjgicnfoaaProg.lean LOADS. Nothing in Lean hashes anything: it is a label: what it is worth is what the hold of that sum in a sandbox is worth. -/
noncomputable def Try.pinned : Pinned := { name := "ytoaejpjgicnfoaa", sum := "e3f4a6ce6047c99a6102cd7e8906c048ec478fd4f6a9d900a3ae1991eca175ff", checked := Try.checked }
namespace Rows
def none {H : Type} : Left H := { results := [], args := [] }

/-- 'plummetlaw07.MovesTexts': WHATEVER THE INPUT: true; the input reads as it did. -/
def movesTextsSpec : ChangeSpec := { name := "movesTexts", fn := fun _ => fun
  | [d1, d2] => { results := [.lit (.bool true)], args := [d1, d2] }
  | _ => none }
def movesTextsRow : OpenClaim := { program := "ytoaejpjgicnfoaa", sum := "e3f4a6ce6047c99a6102cd7e8906c048ec478fd4f6a9d900a3ae1991eca175ff", func := "plummet/plummetlaw07.MovesTexts", spec := "movesTexts", unfollowed := true, recurses := true, apart := false }
def MovesTextsSaid : Prop := movesTextsRow.holds Try.pinned (OpenSpec.ofChange movesTextsSpec)

/-- ITS FALSE NEIGHBOUR: 'it returns false'. Refute it at one input. -/
def movesTextsWrong : ChangeSpec := { name := "movesTexts", fn := fun _ => fun
  | [d1, d2] => { results := [.lit (.bool false)], args := [d1, d2] }
  | _ => none }
def MovesTextsWrongFalsely : Prop := movesTextsRow.holds Try.pinned (OpenSpec.ofChange movesTextsWrong)

/-- 'plummetlaw07.MovesParse': WHATEVER THE INPUT: true; the input reads as it did. -/
def movesParseSpec : ChangeSpec := { name := "movesParse", fn := fun _ => fun
  | [d1, d2] => { results := [.lit (.bool true)], args := [d1, d2] }
  | _ => none }
def movesParseRow : OpenClaim := { program := "ytoaejpjgicnfoaa", sum := "e3f4a6ce6047c99a6102cd7e8906c048ec478fd4f6a9d900a3ae1991eca175ff", func := "plummet/plummetlaw07.MovesParse", spec := "movesParse", unfollowed := true, recurses := true, apart := false }
def MovesParseSaid : Prop := movesParseRow.holds Try.pinned (OpenSpec.ofChange movesParseSpec)

/-- ITS FALSE NEIGHBOUR: 'it returns false'. Refute it at one input. -/
def movesParseWrong : ChangeSpec := { name := "movesParse", fn := fun _ => fun
  | [d1, d2] => { results := [.lit (.bool false)], args := [d1, d2] }
  | _ => none }
def MovesParseWrongFalsely : Prop := movesParseRow.holds Try.pinned (OpenSpec.ofChange movesParseWrong)

/-- 'plummetlaw07.MovesMirror': WHATEVER THE INPUT: true; the input reads as it did. -/
def movesMirrorSpec : ChangeSpec := { name := "movesMirror", fn := fun _ => fun
  | [d1, d2] => { results := [.lit (.bool true)], args := [d1, d2] }
  | _ => none }
def movesMirrorRow : OpenClaim := { program := "ytoaejpjgicnfoaa", sum := "e3f4a6ce6047c99a6102cd7e8906c048ec478fd4f6a9d900a3ae1991eca175ff", func := "plummet/plummetlaw07.MovesMirror", spec := "movesMirror", unfollowed := true, recurses := true, apart := false }
def MovesMirrorSaid : Prop := movesMirrorRow.holds Try.pinned (OpenSpec.ofChange movesMirrorSpec)

/-- ITS FALSE NEIGHBOUR: 'it returns false'. Refute it at one input. -/
def movesMirrorWrong : ChangeSpec := { name := "movesMirror", fn := fun _ => fun
  | [d1, d2] => { results := [.lit (.bool false)], args := [d1, d2] }
  | _ => none }
def MovesMirrorWrongFalsely : Prop := movesMirrorRow.holds Try.pinned (OpenSpec.ofChange movesMirrorWrong)

/-- 'plummetlaw07.MovesCounts': WHATEVER THE INPUT: true; the input reads as it did. -/
def movesCountsSpec : ChangeSpec := { name := "movesCounts", fn := fun _ => fun
  | [d1, d2] => { results := [.lit (.bool true)], args := [d1, d2] }
  | _ => none }
def movesCountsRow : OpenClaim := { program := "ytoaejpjgicnfoaa", sum := "e3f4a6ce6047c99a6102cd7e8906c048ec478fd4f6a9d900a3ae1991eca175ff", func := "plummet/plummetlaw07.MovesCounts", spec := "movesCounts", unfollowed := true, recurses := true, apart := false }
def MovesCountsSaid : Prop := movesCountsRow.holds Try.pinned (OpenSpec.ofChange movesCountsSpec)

/-- ITS FALSE NEIGHBOUR: 'it returns false'. Refute it at one input. -/
def movesCountsWrong : ChangeSpec := { name := "movesCounts", fn := fun _ => fun
  | [d1, d2] => { results := [.lit (.bool false)], args := [d1, d2] }
  | _ => none }
def MovesCountsWrongFalsely : Prop := movesCountsRow.holds Try.pinned (OpenSpec.ofChange movesCountsWrong)

/-- 'plummetlaw05.PlaneSteps': WHATEVER THE INPUT: true; the input reads as it did. -/
def planeStepsSpec : ChangeSpec := { name := "planeSteps", fn := fun _ => fun
  | [d1, d2, d3] => { results := [.lit (.bool true)], args := [d1, d2, d3] }
  | _ => none }
def planeStepsRow : OpenClaim := { program := "ytoaejpjgicnfoaa", sum := "e3f4a6ce6047c99a6102cd7e8906c048ec478fd4f6a9d900a3ae1991eca175ff", func := "plummet/plummetlaw05.PlaneSteps", spec := "planeSteps", apart := false }
def PlaneStepsSaid : Prop := planeStepsRow.holds Try.pinned (OpenSpec.ofChange planeStepsSpec)

/-- ITS FALSE NEIGHBOUR: 'it returns false'. Refute it at one input. -/
def planeStepsWrong : ChangeSpec := { name := "planeSteps", fn := fun _ => fun
  | [d1, d2, d3] => { results := [.lit (.bool false)], args := [d1, d2, d3] }
  | _ => none }
def PlaneStepsWrongFalsely : Prop := planeStepsRow.holds Try.pinned (OpenSpec.ofChange planeStepsWrong)

/-- 'plummetlaw05.PlaneWays': WHATEVER THE INPUT: true; the input reads as it did. -/
def planeWaysSpec : ChangeSpec := { name := "planeWays", fn := fun _ => fun
  | [d1, d2] => { results := [.lit (.bool true)], args := [d1, d2] }
  | _ => none }
def planeWaysRow : OpenClaim := { program := "ytoaejpjgicnfoaa", sum := "e3f4a6ce6047c99a6102cd7e8906c048ec478fd4f6a9d900a3ae1991eca175ff", func := "plummet/plummetlaw05.PlaneWays", spec := "planeWays", apart := false }
def PlaneWaysSaid : Prop := planeWaysRow.holds Try.pinned (OpenSpec.ofChange planeWaysSpec)

/-- ITS FALSE NEIGHBOUR: 'it returns false'. Refute it at one input. -/
def planeWaysWrong : ChangeSpec := { name := "planeWays", fn := fun _ => fun
  | [d1, d2] => { results := [.lit (.bool false)], args := [d1, d2] }
  | _ => none }
def PlaneWaysWrongFalsely : Prop := planeWaysRow.holds Try.pinned (OpenSpec.ofChange planeWaysWrong)

/-- 'plummetlaw05.PlaneLines': WHATEVER THE INPUT: true; the input reads as it did. -/
def planeLinesSpec : ChangeSpec := { name := "planeLines", fn := fun _ => fun
  | [d1, d2, d3] => { results := [.lit (.bool true)], args := [d1, d2, d3] }
  | _ => none }
def planeLinesRow : OpenClaim := { program := "ytoaejpjgicnfoaa", sum := "e3f4a6ce6047c99a6102cd7e8906c048ec478fd4f6a9d900a3ae1991eca175ff", func := "plummet/plummetlaw05.PlaneLines", spec := "planeLines", apart := false }
def PlaneLinesSaid : Prop := planeLinesRow.holds Try.pinned (OpenSpec.ofChange planeLinesSpec)

/-- ITS FALSE NEIGHBOUR: 'it returns false'. Refute it at one input. -/
def planeLinesWrong : ChangeSpec := { name := "planeLines", fn := fun _ => fun
  | [d1, d2, d3] => { results := [.lit (.bool false)], args := [d1, d2, d3] }
  | _ => none }
def PlaneLinesWrongFalsely : Prop := planeLinesRow.holds Try.pinned (OpenSpec.ofChange planeLinesWrong)

/-- 'plummetlaw01.DigitsTexts': WHATEVER THE INPUT: true; the input reads as it did. -/
def digitsTextsSpec : ChangeSpec := { name := "digitsTexts", fn := fun _ => fun
  | [d] => { results := [.lit (.bool true)], args := [d] }
  | _ => none }
def digitsTextsRow : OpenClaim := { program := "ytoaejpjgicnfoaa", sum := "e3f4a6ce6047c99a6102cd7e8906c048ec478fd4f6a9d900a3ae1991eca175ff", func := "plummet/plummetlaw01.DigitsTexts", spec := "digitsTexts", recurses := true, apart := false }
def DigitsTextsSaid : Prop := digitsTextsRow.holds Try.pinned (OpenSpec.ofChange digitsTextsSpec)

/-- ITS FALSE NEIGHBOUR: 'it returns false'. Refute it at one input. -/
def digitsTextsWrong : ChangeSpec := { name := "digitsTexts", fn := fun _ => fun
  | [d] => { results := [.lit (.bool false)], args := [d] }
  | _ => none }
def DigitsTextsWrongFalsely : Prop := digitsTextsRow.holds Try.pinned (OpenSpec.ofChange digitsTextsWrong)

/-- 'plummetlaw01.DigitsReads': WHATEVER THE INPUT: true; the input reads as it did. -/
def digitsReadsSpec : ChangeSpec := { name := "digitsReads", fn := fun _ => fun
  | [d] => { results := [.lit (.bool true)], args := [d] }
  | _ => none }
def digitsReadsRow : OpenClaim := { program := "ytoaejpjgicnfoaa", sum := "e3f4a6ce6047c99a6102cd7e8906c048ec478fd4f6a9d900a3ae1991eca175ff", func := "plummet/plummetlaw01.DigitsReads", spec := "digitsReads", recurses := true, apart := false }
def DigitsReadsSaid : Prop := digitsReadsRow.holds Try.pinned (OpenSpec.ofChange digitsReadsSpec)

/-- ITS FALSE NEIGHBOUR: 'it returns false'. Refute it at one input. -/
def digitsReadsWrong : ChangeSpec := { name := "digitsReads", fn := fun _ => fun
  | [d] => { results := [.lit (.bool false)], args := [d] }
  | _ => none }
def DigitsReadsWrongFalsely : Prop := digitsReadsRow.holds Try.pinned (OpenSpec.ofChange digitsReadsWrong)

/-- 'plummetlaw01.DigitsJoins': WHATEVER THE INPUT: true; the input reads as it did. -/
def digitsJoinsSpec : ChangeSpec := { name := "digitsJoins", fn := fun _ => fun
  | [d1, d2] => { results := [.lit (.bool true)], args := [d1, d2] }
  | _ => none }
def digitsJoinsRow : OpenClaim := { program := "ytoaejpjgicnfoaa", sum := "e3f4a6ce6047c99a6102cd7e8906c048ec478fd4f6a9d900a3ae1991eca175ff", func := "plummet/plummetlaw01.DigitsJoins", spec := "digitsJoins", recurses := true, apart := false }
def DigitsJoinsSaid : Prop := digitsJoinsRow.holds Try.pinned (OpenSpec.ofChange digitsJoinsSpec)

/-- ITS FALSE NEIGHBOUR: 'it returns false'. Refute it at one input. -/
def digitsJoinsWrong : ChangeSpec := { name := "digitsJoins", fn := fun _ => fun
  | [d1, d2] => { results := [.lit (.bool false)], args := [d1, d2] }
  | _ => none }
def DigitsJoinsWrongFalsely : Prop := digitsJoinsRow.holds Try.pinned (OpenSpec.ofChange digitsJoinsWrong)

/-- 'plummetlaw01.DigitsSplits': WHATEVER THE INPUT: true; the input reads as it did. -/
def digitsSplitsSpec : ChangeSpec := { name := "digitsSplits", fn := fun _ => fun
  | [d] => { results := [.lit (.bool true)], args := [d] }
  | _ => none }
def digitsSplitsRow : OpenClaim := { program := "ytoaejpjgicnfoaa", sum := "e3f4a6ce6047c99a6102cd7e8906c048ec478fd4f6a9d900a3ae1991eca175ff", func := "plummet/plummetlaw01.DigitsSplits", spec := "digitsSplits", recurses := true, apart := false }
def DigitsSplitsSaid : Prop := digitsSplitsRow.holds Try.pinned (OpenSpec.ofChange digitsSplitsSpec)

/-- ITS FALSE NEIGHBOUR: 'it returns false'. Refute it at one input. -/
def digitsSplitsWrong : ChangeSpec := { name := "digitsSplits", fn := fun _ => fun
  | [d] => { results := [.lit (.bool false)], args := [d] }
  | _ => none }
def DigitsSplitsWrongFalsely : Prop := digitsSplitsRow.holds Try.pinned (OpenSpec.ofChange digitsSplitsWrong)

/-- 'plummetlaw05.PlaneTurns': WHATEVER THE INPUT: true; the input reads as it did. -/
def planeTurnsSpec : ChangeSpec := { name := "planeTurns", fn := fun _ => fun
  | [d1, d2, d3] => { results := [.lit (.bool true)], args := [d1, d2, d3] }
  | _ => none }
def planeTurnsRow : OpenClaim := { program := "ytoaejpjgicnfoaa", sum := "e3f4a6ce6047c99a6102cd7e8906c048ec478fd4f6a9d900a3ae1991eca175ff", func := "plummet/plummetlaw05.PlaneTurns", spec := "planeTurns", apart := false }
def PlaneTurnsSaid : Prop := planeTurnsRow.holds Try.pinned (OpenSpec.ofChange planeTurnsSpec)

/-- ITS FALSE NEIGHBOUR: 'it returns false'. Refute it at one input. -/
def planeTurnsWrong : ChangeSpec := { name := "planeTurns", fn := fun _ => fun
  | [d1, d2, d3] => { results := [.lit (.bool false)], args := [d1, d2, d3] }
  | _ => none }
def PlaneTurnsWrongFalsely : Prop := planeTurnsRow.holds Try.pinned (OpenSpec.ofChange planeTurnsWrong)

/- THE SECOND FORM. 'bulk': how many values and letters a reading holds, each counted each time it is reached (what is shared counts as often as it is met; a slice's spare places count too). A statement '..UptoSaid' is the law's where the arguments, and the package variables that the reading takes, are together of bulk at most 1048576: NARROWER than '..Said'. Prove '..Said' where nothing that the law and all that it calls make is longer than what came in: it says more and counts as full. Else prove '..UptoSaid'. A law counts once. -/
mutual
def uptoBulk {H : Type} : DataW H → Nat
  | .lit (.string bytes) => bytes.length + 1
  | .lit _ => 1
  | .nil => 1
  | .ptr d => uptoBulk d + 1
  | .slice elems spare => uptoBulkAll elems + uptoBulkAll spare + 1
  | .agg parts => uptoBulkAll parts + 1
  | .iface _ d => uptoBulk d + 1
  | .map entries => uptoBulkEntries entries + 1
  | .held _ => 1
def uptoBulkAll {H : Type} : List (DataW H) → Nat
  | [] => 0
  | d :: r => uptoBulk d + uptoBulkAll r
def uptoBulkEntries {H : Type} : List (Lit × DataW H) → Nat
  | [] => 0
  | x :: r => uptoBulkEntry x + uptoBulkEntries r
def uptoBulkEntry {H : Type} : Lit × DataW H → Nat
  | (.string bytes, d) => bytes.length + uptoBulk d + 1
  | (_, d) => uptoBulk d + 1
 end
def uptoSmall : (H : Type) → List (DataW H) → Bool := fun _ ds => decide (uptoBulkAll ds ≤ 1048576)
def OpenSpec.upto (s : _root_.Go.ChangeSpec) : _root_.Go.OpenSpec := { _root_.Go.OpenSpec.ofChange s with cond := some uptoSmall }

/-- 'plummetlaw07.MovesTexts', WHERE WHAT IT READS IS OF BULK AT MOST 1048576: true; the input reads as it did. -/
def movesTextsUptoRow : OpenClaim := { program := "ytoaejpjgicnfoaa", sum := "e3f4a6ce6047c99a6102cd7e8906c048ec478fd4f6a9d900a3ae1991eca175ff", func := "plummet/plummetlaw07.MovesTexts", spec := "movesTexts", unfollowed := true, recurses := true, apart := false, narrowed := true }
def MovesTextsUptoSaid : Prop := movesTextsUptoRow.holds Try.pinned (OpenSpec.upto movesTextsSpec)

/-- 'plummetlaw07.MovesParse', WHERE WHAT IT READS IS OF BULK AT MOST 1048576: true; the input reads as it did. -/
def movesParseUptoRow : OpenClaim := { program := "ytoaejpjgicnfoaa", sum := "e3f4a6ce6047c99a6102cd7e8906c048ec478fd4f6a9d900a3ae1991eca175ff", func := "plummet/plummetlaw07.MovesParse", spec := "movesParse", unfollowed := true, recurses := true, apart := false, narrowed := true }
def MovesParseUptoSaid : Prop := movesParseUptoRow.holds Try.pinned (OpenSpec.upto movesParseSpec)

/-- 'plummetlaw07.MovesMirror', WHERE WHAT IT READS IS OF BULK AT MOST 1048576: true; the input reads as it did. -/
def movesMirrorUptoRow : OpenClaim := { program := "ytoaejpjgicnfoaa", sum := "e3f4a6ce6047c99a6102cd7e8906c048ec478fd4f6a9d900a3ae1991eca175ff", func := "plummet/plummetlaw07.MovesMirror", spec := "movesMirror", unfollowed := true, recurses := true, apart := false, narrowed := true }
def MovesMirrorUptoSaid : Prop := movesMirrorUptoRow.holds Try.pinned (OpenSpec.upto movesMirrorSpec)

/-- 'plummetlaw07.MovesCounts', WHERE WHAT IT READS IS OF BULK AT MOST 1048576: true; the input reads as it did. -/
def movesCountsUptoRow : OpenClaim := { program := "ytoaejpjgicnfoaa", sum := "e3f4a6ce6047c99a6102cd7e8906c048ec478fd4f6a9d900a3ae1991eca175ff", func := "plummet/plummetlaw07.MovesCounts", spec := "movesCounts", unfollowed := true, recurses := true, apart := false, narrowed := true }
def MovesCountsUptoSaid : Prop := movesCountsUptoRow.holds Try.pinned (OpenSpec.upto movesCountsSpec)

/-- 'plummetlaw05.PlaneSteps', WHERE WHAT IT READS IS OF BULK AT MOST 1048576: true; the input reads as it did. -/
def planeStepsUptoRow : OpenClaim := { program := "ytoaejpjgicnfoaa", sum := "e3f4a6ce6047c99a6102cd7e8906c048ec478fd4f6a9d900a3ae1991eca175ff", func := "plummet/plummetlaw05.PlaneSteps", spec := "planeSteps", apart := false, narrowed := true }
def PlaneStepsUptoSaid : Prop := planeStepsUptoRow.holds Try.pinned (OpenSpec.upto planeStepsSpec)

/-- 'plummetlaw05.PlaneWays', WHERE WHAT IT READS IS OF BULK AT MOST 1048576: true; the input reads as it did. -/
def planeWaysUptoRow : OpenClaim := { program := "ytoaejpjgicnfoaa", sum := "e3f4a6ce6047c99a6102cd7e8906c048ec478fd4f6a9d900a3ae1991eca175ff", func := "plummet/plummetlaw05.PlaneWays", spec := "planeWays", apart := false, narrowed := true }
def PlaneWaysUptoSaid : Prop := planeWaysUptoRow.holds Try.pinned (OpenSpec.upto planeWaysSpec)

/-- 'plummetlaw05.PlaneLines', WHERE WHAT IT READS IS OF BULK AT MOST 1048576: true; the input reads as it did. -/
def planeLinesUptoRow : OpenClaim := { program := "ytoaejpjgicnfoaa", sum := "e3f4a6ce6047c99a6102cd7e8906c048ec478fd4f6a9d900a3ae1991eca175ff", func := "plummet/plummetlaw05.PlaneLines", spec := "planeLines", apart := false, narrowed := true }
def PlaneLinesUptoSaid : Prop := planeLinesUptoRow.holds Try.pinned (OpenSpec.upto planeLinesSpec)

/-- 'plummetlaw01.DigitsTexts', WHERE WHAT IT READS IS OF BULK AT MOST 1048576: true; the input reads as it did. -/
def digitsTextsUptoRow : OpenClaim := { program := "ytoaejpjgicnfoaa", sum := "e3f4a6ce6047c99a6102cd7e8906c048ec478fd4f6a9d900a3ae1991eca175ff", func := "plummet/plummetlaw01.DigitsTexts", spec := "digitsTexts", recurses := true, apart := false, narrowed := true }
def DigitsTextsUptoSaid : Prop := digitsTextsUptoRow.holds Try.pinned (OpenSpec.upto digitsTextsSpec)

/-- 'plummetlaw01.DigitsReads', WHERE WHAT IT READS IS OF BULK AT MOST 1048576: true; the input reads as it did. -/
def digitsReadsUptoRow : OpenClaim := { program := "ytoaejpjgicnfoaa", sum := "e3f4a6ce6047c99a6102cd7e8906c048ec478fd4f6a9d900a3ae1991eca175ff", func := "plummet/plummetlaw01.DigitsReads", spec := "digitsReads", recurses := true, apart := false, narrowed := true }
def DigitsReadsUptoSaid : Prop := digitsReadsUptoRow.holds Try.pinned (OpenSpec.upto digitsReadsSpec)

/-- 'plummetlaw01.DigitsJoins', WHERE WHAT IT READS IS OF BULK AT MOST 1048576: true; the input reads as it did. -/
def digitsJoinsUptoRow : OpenClaim := { program := "ytoaejpjgicnfoaa", sum := "e3f4a6ce6047c99a6102cd7e8906c048ec478fd4f6a9d900a3ae1991eca175ff", func := "plummet/plummetlaw01.DigitsJoins", spec := "digitsJoins", recurses := true, apart := false, narrowed := true }
def DigitsJoinsUptoSaid : Prop := digitsJoinsUptoRow.holds Try.pinned (OpenSpec.upto digitsJoinsSpec)

/-- 'plummetlaw01.DigitsSplits', WHERE WHAT IT READS IS OF BULK AT MOST 1048576: true; the input reads as it did. -/
def digitsSplitsUptoRow : OpenClaim := { program := "ytoaejpjgicnfoaa", sum := "e3f4a6ce6047c99a6102cd7e8906c048ec478fd4f6a9d900a3ae1991eca175ff", func := "plummet/plummetlaw01.DigitsSplits", spec := "digitsSplits", recurses := true, apart := false, narrowed := true }
def DigitsSplitsUptoSaid : Prop := digitsSplitsUptoRow.holds Try.pinned (OpenSpec.upto digitsSplitsSpec)

/-- 'plummetlaw05.PlaneTurns', WHERE WHAT IT READS IS OF BULK AT MOST 1048576: true; the input reads as it did. -/
def planeTurnsUptoRow : OpenClaim := { program := "ytoaejpjgicnfoaa", sum := "e3f4a6ce6047c99a6102cd7e8906c048ec478fd4f6a9d900a3ae1991eca175ff", func := "plummet/plummetlaw05.PlaneTurns", spec := "planeTurns", apart := false, narrowed := true }
def PlaneTurnsUptoSaid : Prop := planeTurnsUptoRow.holds Try.pinned (OpenSpec.upto planeTurnsSpec)

end Rows
end Go.Proofs.Ytoaejpjgicnfoaa
