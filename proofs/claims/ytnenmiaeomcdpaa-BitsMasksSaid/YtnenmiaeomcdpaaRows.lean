/-
  No cell of these rows narrows 'for every input' (looked for: loops, veiled, ifaces, maps, wideKeys, modest, calm, conditions, laid).
  DERIVED. THE GIVEN ROWS OF THIS SEAT. 5 by the template 'for every input the law returns true; each argument reads behind the call as it read before'; 0 by the template 'total and deterministic' (their statements: YtnenmiaeomcdpaaTotals.lean).
  GIVEN WITH THE SEED: the statements are not yours to turn. If you find one false, say at which input.
  Laid BY PROGRAM, IN A SANDBOX (cutbox-rows.mjs): the forced cells as the released guide's own fill.sh prints them over the translation 87b506ddda57657f… (all of the seat's roots in one cut). By AI agents, Wed Nov 11 2026. No macro, syntax, notation, axiom, sorry.
-/
import Derived.Test.YtnenmiaeomcdpaaChecked
import GoSem.Claim
import GoSem.ClaimJoined
import GoSem.ClaimMapViews
import Derived.JoinedTies
import Derived.KernelRfl
namespace Go.Proofs.Ytnenmiaeomcdpaa
/- THE CELL 'sum', in the pinned program and in every row, IS THE sha256 OF THE DUMP (.gsa) THAT YtnenmiaeomcdpaaProg.lean LOADS. Nothing in Lean hashes anything: it is a label: what it is worth is what the hold of that sum in a sandbox is worth. -/
noncomputable def Try.pinned : Pinned := { name := "ytnenmiaeomcdpaa", sum := "87b506ddda57657f9024f5adccd18d01fa84018e3e712e4b785240bdd5fd7c9f", checked := Try.checked }
namespace Rows
def none {H : Type} : Left H := { results := [], args := [] }

/-- 'plummetlaw09.BitsFours': WHATEVER THE INPUT: true; the input reads as it did. -/
def bitsFoursSpec : ChangeSpec := { name := "bitsFours", fn := fun _ => fun
  | [d1, d2] => { results := [.lit (.bool true)], args := [d1, d2] }
  | _ => none }
def bitsFoursRow : OpenClaim := { program := "ytnenmiaeomcdpaa", sum := "87b506ddda57657f9024f5adccd18d01fa84018e3e712e4b785240bdd5fd7c9f", func := "plummet/plummetlaw09.BitsFours", spec := "bitsFours", inPlace := ["math/bits.Sub64"], unfollowed := true, recurses := true, apart := false }
def BitsFoursSaid : Prop := bitsFoursRow.holds Try.pinned (OpenSpec.ofChange bitsFoursSpec)

/-- ITS FALSE NEIGHBOUR: 'it returns false'. Refute it at one input. -/
def bitsFoursWrong : ChangeSpec := { name := "bitsFours", fn := fun _ => fun
  | [d1, d2] => { results := [.lit (.bool false)], args := [d1, d2] }
  | _ => none }
def BitsFoursWrongFalsely : Prop := bitsFoursRow.holds Try.pinned (OpenSpec.ofChange bitsFoursWrong)

/-- 'plummetlaw09.BitsFourths': WHATEVER THE INPUT: true; the input reads as it did. -/
def bitsFourthsSpec : ChangeSpec := { name := "bitsFourths", fn := fun _ => fun
  | [d1, d2] => { results := [.lit (.bool true)], args := [d1, d2] }
  | _ => none }
def bitsFourthsRow : OpenClaim := { program := "ytnenmiaeomcdpaa", sum := "87b506ddda57657f9024f5adccd18d01fa84018e3e712e4b785240bdd5fd7c9f", func := "plummet/plummetlaw09.BitsFourths", spec := "bitsFourths", inPlace := ["math/bits.Sub64"], unfollowed := true, recurses := true, apart := false }
def BitsFourthsSaid : Prop := bitsFourthsRow.holds Try.pinned (OpenSpec.ofChange bitsFourthsSpec)

/-- ITS FALSE NEIGHBOUR: 'it returns false'. Refute it at one input. -/
def bitsFourthsWrong : ChangeSpec := { name := "bitsFourths", fn := fun _ => fun
  | [d1, d2] => { results := [.lit (.bool false)], args := [d1, d2] }
  | _ => none }
def BitsFourthsWrongFalsely : Prop := bitsFourthsRow.holds Try.pinned (OpenSpec.ofChange bitsFourthsWrong)

/-- 'plummetlaw09.BitsMirror': WHATEVER THE INPUT: true; the input reads as it did. -/
def bitsMirrorSpec : ChangeSpec := { name := "bitsMirror", fn := fun _ => fun
  | [d1, d2] => { results := [.lit (.bool true)], args := [d1, d2] }
  | _ => none }
def bitsMirrorRow : OpenClaim := { program := "ytnenmiaeomcdpaa", sum := "87b506ddda57657f9024f5adccd18d01fa84018e3e712e4b785240bdd5fd7c9f", func := "plummet/plummetlaw09.BitsMirror", spec := "bitsMirror", inPlace := ["math/bits.Sub64"], unfollowed := true, recurses := true, apart := false }
def BitsMirrorSaid : Prop := bitsMirrorRow.holds Try.pinned (OpenSpec.ofChange bitsMirrorSpec)

/-- ITS FALSE NEIGHBOUR: 'it returns false'. Refute it at one input. -/
def bitsMirrorWrong : ChangeSpec := { name := "bitsMirror", fn := fun _ => fun
  | [d1, d2] => { results := [.lit (.bool false)], args := [d1, d2] }
  | _ => none }
def BitsMirrorWrongFalsely : Prop := bitsMirrorRow.holds Try.pinned (OpenSpec.ofChange bitsMirrorWrong)

/-- 'plummetlaw09.BitsNext': WHATEVER THE INPUT: true; the input reads as it did. -/
def bitsNextSpec : ChangeSpec := { name := "bitsNext", fn := fun _ => fun
  | [d1, d2] => { results := [.lit (.bool true)], args := [d1, d2] }
  | _ => none }
def bitsNextRow : OpenClaim := { program := "ytnenmiaeomcdpaa", sum := "87b506ddda57657f9024f5adccd18d01fa84018e3e712e4b785240bdd5fd7c9f", func := "plummet/plummetlaw09.BitsNext", spec := "bitsNext", inPlace := ["math/bits.Sub64", "math/bits.Add64"], unfollowed := true, recurses := true, apart := false }
def BitsNextSaid : Prop := bitsNextRow.holds Try.pinned (OpenSpec.ofChange bitsNextSpec)

/-- ITS FALSE NEIGHBOUR: 'it returns false'. Refute it at one input. -/
def bitsNextWrong : ChangeSpec := { name := "bitsNext", fn := fun _ => fun
  | [d1, d2] => { results := [.lit (.bool false)], args := [d1, d2] }
  | _ => none }
def BitsNextWrongFalsely : Prop := bitsNextRow.holds Try.pinned (OpenSpec.ofChange bitsNextWrong)

/-- 'plummetlaw09.BitsMasks': WHATEVER THE INPUT: true; the input reads as it did. -/
def bitsMasksSpec : ChangeSpec := { name := "bitsMasks", fn := fun _ => fun
  | [d1, d2, d3] => { results := [.lit (.bool true)], args := [d1, d2, d3] }
  | _ => none }
def bitsMasksRow : OpenClaim := { program := "ytnenmiaeomcdpaa", sum := "87b506ddda57657f9024f5adccd18d01fa84018e3e712e4b785240bdd5fd7c9f", func := "plummet/plummetlaw09.BitsMasks", spec := "bitsMasks", inPlace := ["math/bits.Sub64"], unfollowed := true, recurses := true, apart := false }
def BitsMasksSaid : Prop := bitsMasksRow.holds Try.pinned (OpenSpec.ofChange bitsMasksSpec)

/-- ITS FALSE NEIGHBOUR: 'it returns false'. Refute it at one input. -/
def bitsMasksWrong : ChangeSpec := { name := "bitsMasks", fn := fun _ => fun
  | [d1, d2, d3] => { results := [.lit (.bool false)], args := [d1, d2, d3] }
  | _ => none }
def BitsMasksWrongFalsely : Prop := bitsMasksRow.holds Try.pinned (OpenSpec.ofChange bitsMasksWrong)

/- THE SECOND FORM. 'bulk': how many values and letters a reading holds, each counted each time it is reached (what is shared counts as often as it is met; a slice's spare places count too). A statement '..UptoSaid' is the law's where the arguments, and the package variables that the reading takes, are together of bulk at most 1048576: NARROWER than '..Said'. Prove '..Said' where nothing that the law and all that it calls make is longer than what came in: it says more and counts as full. Else prove '..UptoSaid'. A law counts once. -/
mutual
def uptoBulk {H : Type} : DataW H → Nat
  | .lit (.string bytes) => bytes.length + 1
  | .lit _ => 1
  | .nil => 1
  | .ptr d => uptoBulk d + 1
  | .slice elems spare => uptoBulkAll elems + uptoBulkAll spare + 1
  | .agg parts => uptoBulkAll parts + 1
  | .iface _ d => uptoBulk d + 1
  | .map entries => uptoBulkEntries entries + 1
  | .held _ => 1
def uptoBulkAll {H : Type} : List (DataW H) → Nat
  | [] => 0
  | d :: r => uptoBulk d + uptoBulkAll r
def uptoBulkEntries {H : Type} : List (Lit × DataW H) → Nat
  | [] => 0
  | x :: r => uptoBulkEntry x + uptoBulkEntries r
def uptoBulkEntry {H : Type} : Lit × DataW H → Nat
  | (.string bytes, d) => bytes.length + uptoBulk d + 1
  | (_, d) => uptoBulk d + 1
 end
def uptoSmall : (H : Type) → List (DataW H) → Bool := fun _ ds => decide (uptoBulkAll ds ≤ 1048576)
def OpenSpec.upto (s : _root_.Go.ChangeSpec) : _root_.Go.OpenSpec := { _root_.Go.OpenSpec.ofChange s with cond := some uptoSmall }

/-- 'plummetlaw09.BitsFours', WHERE WHAT IT READS IS OF BULK AT MOST 1048576: true; the input reads as it did. -/
def bitsFoursUptoRow : OpenClaim := { program := "ytnenmiaeomcdpaa", sum := "87b506ddda57657f9024f5adccd18d01fa84018e3e712e4b785240bdd5fd7c9f", func := "plummet/plummetlaw09.BitsFours", spec := "bitsFours", inPlace := ["math/bits.Sub64"], unfollowed := true, recurses := true, apart := false, narrowed := true }
def BitsFoursUptoSaid : Prop := bitsFoursUptoRow.holds Try.pinned (OpenSpec.upto bitsFoursSpec)

/-- 'plummetlaw09.BitsFourths', WHERE WHAT IT READS IS OF BULK AT MOST 1048576: true; the input reads as it did. -/
def bitsFourthsUptoRow : OpenClaim := { program := "ytnenmiaeomcdpaa", sum := "87b506ddda57657f9024f5adccd18d01fa84018e3e712e4b785240bdd5fd7c9f", func := "plummet/plummetlaw09.BitsFourths", spec := "bitsFourths", inPlace := ["math/bits.Sub64"], unfollowed := true, recurses := true, apart := false, narrowed := true }
def BitsFourthsUptoSaid : Prop := bitsFourthsUptoRow.holds Try.pinned (OpenSpec.upto bitsFourthsSpec)

/-- 'plummetlaw09.BitsMirror', WHERE WHAT IT READS IS OF BULK AT MOST 1048576: true; the input reads as it did. -/
def bitsMirrorUptoRow : OpenClaim := { program := "ytnenmiaeomcdpaa", sum := "87b506ddda57657f9024f5adccd18d01fa84018e3e712e4b785240bdd5fd7c9f", func := "plummet/plummetlaw09.BitsMirror", spec := "bitsMirror", inPlace := ["math/bits.Sub64"], unfollowed := true, recurses := true, apart := false, narrowed := true }
def BitsMirrorUptoSaid : Prop := bitsMirrorUptoRow.holds Try.pinned (OpenSpec.upto bitsMirrorSpec)

/-- 'plummetlaw09.BitsNext', WHERE WHAT IT READS IS OF BULK AT MOST 1048576: true; the input reads as it did. -/
def bitsNextUptoRow : OpenClaim := { program := "ytnenmiaeomcdpaa", sum := "87b506ddda57657f9024f5adccd18d01fa84018e3e712e4b785240bdd5fd7c9f", func := "plummet/plummetlaw09.BitsNext", spec := "bitsNext", inPlace := ["math/bits.Sub64", "math/bits.Add64"], unfollowed := true, recurses := true, apart := false, narrowed := true }
def BitsNextUptoSaid : Prop := bitsNextUptoRow.holds Try.pinned (OpenSpec.upto bitsNextSpec)

/-- 'plummetlaw09.BitsMasks', WHERE WHAT IT READS IS OF BULK AT MOST 1048576: true; the input reads as it did. -/
def bitsMasksUptoRow : OpenClaim := { program := "ytnenmiaeomcdpaa", sum := "87b506ddda57657f9024f5adccd18d01fa84018e3e712e4b785240bdd5fd7c9f", func := "plummet/plummetlaw09.BitsMasks", spec := "bitsMasks", inPlace := ["math/bits.Sub64"], unfollowed := true, recurses := true, apart := false, narrowed := true }
def BitsMasksUptoSaid : Prop := bitsMasksUptoRow.holds Try.pinned (OpenSpec.upto bitsMasksSpec)

end Rows
end Go.Proofs.Ytnenmiaeomcdpaa
