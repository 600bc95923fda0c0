/-
  No cell of these rows narrows 'for every input' (looked for: loops, veiled, ifaces, maps, wideKeys, modest, calm, conditions, laid).
  DERIVED. THE GIVEN ROWS OF THIS SEAT. 12 by the template 'for every input the law returns true; each argument reads behind the call as it read before'; 0 by the template 'total and deterministic' (their statements: YtbbnnjcdglplkaaTotals.lean).
  GIVEN WITH THE SEED: the statements are not yours to turn. If you find one false, say at which input.
  Laid BY PROGRAM, IN A SANDBOX (cutbox-rows.mjs): the forced cells as the released guide's own fill.sh prints them over the translation 75e3d948021b549a… (all of the seat's roots in one cut). By AI agents, Wed Nov 11 2026. No macro, syntax, notation, axiom, sorry.
-/
import Derived.Test.YtbbnnjcdglplkaaChecked
import GoSem.Claim
import GoSem.ClaimJoined
import GoSem.ClaimMapViews
import Derived.JoinedTies
import Derived.KernelRfl
namespace Go.Proofs.Ytbbnnjcdglplkaa
/- THE CELL 'sum', in the pinned program and in every row, IS THE sha256 OF THE DUMP (.gsa) THAT YtbbnnjcdglplkaaProg.lean LOADS. Nothing in Lean hashes anything: it is a label: what it is worth is what the hold of that sum in a sandbox is worth. -/
noncomputable def Try.pinned : Pinned := { name := "ytbbnnjcdglplkaa", sum := "75e3d948021b549aa50eb3dbc01f9de908a77f5b7fd1ec71206df42c4bed3c6e", checked := Try.checked }
namespace Rows
def none {H : Type} : Left H := { results := [], args := [] }

/-- 'plummetlaw06.BoardPlaces': WHATEVER THE INPUT: true; the input reads as it did. -/
def boardPlacesSpec : ChangeSpec := { name := "boardPlaces", fn := fun _ => fun
  | [d1, d2, d3] => { results := [.lit (.bool true)], args := [d1, d2, d3] }
  | _ => none }
def boardPlacesRow : OpenClaim := { program := "ytbbnnjcdglplkaa", sum := "75e3d948021b549aa50eb3dbc01f9de908a77f5b7fd1ec71206df42c4bed3c6e", func := "plummet/plummetlaw06.BoardPlaces", spec := "boardPlaces", apart := false }
def BoardPlacesSaid : Prop := boardPlacesRow.holds Try.pinned (OpenSpec.ofChange boardPlacesSpec)

/-- ITS FALSE NEIGHBOUR: 'it returns false'. Refute it at one input. -/
def boardPlacesWrong : ChangeSpec := { name := "boardPlaces", fn := fun _ => fun
  | [d1, d2, d3] => { results := [.lit (.bool false)], args := [d1, d2, d3] }
  | _ => none }
def BoardPlacesWrongFalsely : Prop := boardPlacesRow.holds Try.pinned (OpenSpec.ofChange boardPlacesWrong)

/-- 'plummetlaw06.BoardKinds': WHATEVER THE INPUT: true; the input reads as it did. -/
def boardKindsSpec : ChangeSpec := { name := "boardKinds", fn := fun _ => fun
  | [d] => { results := [.lit (.bool true)], args := [d] }
  | _ => none }
def boardKindsRow : OpenClaim := { program := "ytbbnnjcdglplkaa", sum := "75e3d948021b549aa50eb3dbc01f9de908a77f5b7fd1ec71206df42c4bed3c6e", func := "plummet/plummetlaw06.BoardKinds", spec := "boardKinds", apart := false }
def BoardKindsSaid : Prop := boardKindsRow.holds Try.pinned (OpenSpec.ofChange boardKindsSpec)

/-- ITS FALSE NEIGHBOUR: 'it returns false'. Refute it at one input. -/
def boardKindsWrong : ChangeSpec := { name := "boardKinds", fn := fun _ => fun
  | [d] => { results := [.lit (.bool false)], args := [d] }
  | _ => none }
def BoardKindsWrongFalsely : Prop := boardKindsRow.holds Try.pinned (OpenSpec.ofChange boardKindsWrong)

/-- 'plummetlaw17.ScoreWins': WHATEVER THE INPUT: true; the input reads as it did. -/
def scoreWinsSpec : ChangeSpec := { name := "scoreWins", fn := fun _ => fun
  | [d1, d2, d3] => { results := [.lit (.bool true)], args := [d1, d2, d3] }
  | _ => none }
def scoreWinsRow : OpenClaim := { program := "ytbbnnjcdglplkaa", sum := "75e3d948021b549aa50eb3dbc01f9de908a77f5b7fd1ec71206df42c4bed3c6e", func := "plummet/plummetlaw17.ScoreWins", spec := "scoreWins", recurses := true, apart := false }
def ScoreWinsSaid : Prop := scoreWinsRow.holds Try.pinned (OpenSpec.ofChange scoreWinsSpec)

/-- ITS FALSE NEIGHBOUR: 'it returns false'. Refute it at one input. -/
def scoreWinsWrong : ChangeSpec := { name := "scoreWins", fn := fun _ => fun
  | [d1, d2, d3] => { results := [.lit (.bool false)], args := [d1, d2, d3] }
  | _ => none }
def ScoreWinsWrongFalsely : Prop := scoreWinsRow.holds Try.pinned (OpenSpec.ofChange scoreWinsWrong)

/-- 'plummetlaw17.ScoreRange': WHATEVER THE INPUT: true; the input reads as it did. -/
def scoreRangeSpec : ChangeSpec := { name := "scoreRange", fn := fun _ => fun
  | [d1, d2, d3] => { results := [.lit (.bool true)], args := [d1, d2, d3] }
  | _ => none }
def scoreRangeRow : OpenClaim := { program := "ytbbnnjcdglplkaa", sum := "75e3d948021b549aa50eb3dbc01f9de908a77f5b7fd1ec71206df42c4bed3c6e", func := "plummet/plummetlaw17.ScoreRange", spec := "scoreRange", apart := false }
def ScoreRangeSaid : Prop := scoreRangeRow.holds Try.pinned (OpenSpec.ofChange scoreRangeSpec)

/-- ITS FALSE NEIGHBOUR: 'it returns false'. Refute it at one input. -/
def scoreRangeWrong : ChangeSpec := { name := "scoreRange", fn := fun _ => fun
  | [d1, d2, d3] => { results := [.lit (.bool false)], args := [d1, d2, d3] }
  | _ => none }
def ScoreRangeWrongFalsely : Prop := scoreRangeRow.holds Try.pinned (OpenSpec.ofChange scoreRangeWrong)

/-- 'plummetlaw06.BoardAll': WHATEVER THE INPUT: true; the input reads as it did. -/
def boardAllSpec : ChangeSpec := { name := "boardAll", fn := fun _ => fun
  | [d1, d2] => { results := [.lit (.bool true)], args := [d1, d2] }
  | _ => none }
def boardAllRow : OpenClaim := { program := "ytbbnnjcdglplkaa", sum := "75e3d948021b549aa50eb3dbc01f9de908a77f5b7fd1ec71206df42c4bed3c6e", func := "plummet/plummetlaw06.BoardAll", spec := "boardAll", unfollowed := true, recurses := true, apart := false }
def BoardAllSaid : Prop := boardAllRow.holds Try.pinned (OpenSpec.ofChange boardAllSpec)

/-- ITS FALSE NEIGHBOUR: 'it returns false'. Refute it at one input. -/
def boardAllWrong : ChangeSpec := { name := "boardAll", fn := fun _ => fun
  | [d1, d2] => { results := [.lit (.bool false)], args := [d1, d2] }
  | _ => none }
def BoardAllWrongFalsely : Prop := boardAllRow.holds Try.pinned (OpenSpec.ofChange boardAllWrong)

/-- 'plummetlaw17.ScoreOf': WHATEVER THE INPUT: true; the input reads as it did. -/
def scoreOfSpec : ChangeSpec := { name := "scoreOf", fn := fun _ => fun
  | [d1, d2, d3, d4] => { results := [.lit (.bool true)], args := [d1, d2, d3, d4] }
  | _ => none }
def scoreOfRow : OpenClaim := { program := "ytbbnnjcdglplkaa", sum := "75e3d948021b549aa50eb3dbc01f9de908a77f5b7fd1ec71206df42c4bed3c6e", func := "plummet/plummetlaw17.ScoreOf", spec := "scoreOf", apart := false }
def ScoreOfSaid : Prop := scoreOfRow.holds Try.pinned (OpenSpec.ofChange scoreOfSpec)

/-- ITS FALSE NEIGHBOUR: 'it returns false'. Refute it at one input. -/
def scoreOfWrong : ChangeSpec := { name := "scoreOf", fn := fun _ => fun
  | [d1, d2, d3, d4] => { results := [.lit (.bool false)], args := [d1, d2, d3, d4] }
  | _ => none }
def ScoreOfWrongFalsely : Prop := scoreOfRow.holds Try.pinned (OpenSpec.ofChange scoreOfWrong)

/-- 'plummetlaw17.ScoreOrder': WHATEVER THE INPUT: true; the input reads as it did. -/
def scoreOrderSpec : ChangeSpec := { name := "scoreOrder", fn := fun _ => fun
  | [d1, d2, d3, d4] => { results := [.lit (.bool true)], args := [d1, d2, d3, d4] }
  | _ => none }
def scoreOrderRow : OpenClaim := { program := "ytbbnnjcdglplkaa", sum := "75e3d948021b549aa50eb3dbc01f9de908a77f5b7fd1ec71206df42c4bed3c6e", func := "plummet/plummetlaw17.ScoreOrder", spec := "scoreOrder", apart := false }
def ScoreOrderSaid : Prop := scoreOrderRow.holds Try.pinned (OpenSpec.ofChange scoreOrderSpec)

/-- ITS FALSE NEIGHBOUR: 'it returns false'. Refute it at one input. -/
def scoreOrderWrong : ChangeSpec := { name := "scoreOrder", fn := fun _ => fun
  | [d1, d2, d3, d4] => { results := [.lit (.bool false)], args := [d1, d2, d3, d4] }
  | _ => none }
def ScoreOrderWrongFalsely : Prop := scoreOrderRow.holds Try.pinned (OpenSpec.ofChange scoreOrderWrong)

/-- 'plummetlaw08.GridFours': WHATEVER THE INPUT: true; the input reads as it did. -/
def gridFoursSpec : ChangeSpec := { name := "gridFours", fn := fun _ => fun
  | [d1, d2, d3] => { results := [.lit (.bool true)], args := [d1, d2, d3] }
  | _ => none }
def gridFoursRow : OpenClaim := { program := "ytbbnnjcdglplkaa", sum := "75e3d948021b549aa50eb3dbc01f9de908a77f5b7fd1ec71206df42c4bed3c6e", func := "plummet/plummetlaw08.GridFours", spec := "gridFours", apart := false }
def GridFoursSaid : Prop := gridFoursRow.holds Try.pinned (OpenSpec.ofChange gridFoursSpec)

/-- ITS FALSE NEIGHBOUR: 'it returns false'. Refute it at one input. -/
def gridFoursWrong : ChangeSpec := { name := "gridFours", fn := fun _ => fun
  | [d1, d2, d3] => { results := [.lit (.bool false)], args := [d1, d2, d3] }
  | _ => none }
def GridFoursWrongFalsely : Prop := gridFoursRow.holds Try.pinned (OpenSpec.ofChange gridFoursWrong)

/-- 'plummetlaw08.GridMirror': WHATEVER THE INPUT: true; the input reads as it did. -/
def gridMirrorSpec : ChangeSpec := { name := "gridMirror", fn := fun _ => fun
  | [d1, d2] => { results := [.lit (.bool true)], args := [d1, d2] }
  | _ => none }
def gridMirrorRow : OpenClaim := { program := "ytbbnnjcdglplkaa", sum := "75e3d948021b549aa50eb3dbc01f9de908a77f5b7fd1ec71206df42c4bed3c6e", func := "plummet/plummetlaw08.GridMirror", spec := "gridMirror", apart := false }
def GridMirrorSaid : Prop := gridMirrorRow.holds Try.pinned (OpenSpec.ofChange gridMirrorSpec)

/-- ITS FALSE NEIGHBOUR: 'it returns false'. Refute it at one input. -/
def gridMirrorWrong : ChangeSpec := { name := "gridMirror", fn := fun _ => fun
  | [d1, d2] => { results := [.lit (.bool false)], args := [d1, d2] }
  | _ => none }
def GridMirrorWrongFalsely : Prop := gridMirrorRow.holds Try.pinned (OpenSpec.ofChange gridMirrorWrong)

/-- 'plummetlaw06.BoardFlips': WHATEVER THE INPUT: true; the input reads as it did. -/
def boardFlipsSpec : ChangeSpec := { name := "boardFlips", fn := fun _ => fun
  | [d1, d2, d3] => { results := [.lit (.bool true)], args := [d1, d2, d3] }
  | _ => none }
def boardFlipsRow : OpenClaim := { program := "ytbbnnjcdglplkaa", sum := "75e3d948021b549aa50eb3dbc01f9de908a77f5b7fd1ec71206df42c4bed3c6e", func := "plummet/plummetlaw06.BoardFlips", spec := "boardFlips", inPlace := ["math/bits.Sub64"], apart := false }
def BoardFlipsSaid : Prop := boardFlipsRow.holds Try.pinned (OpenSpec.ofChange boardFlipsSpec)

/-- ITS FALSE NEIGHBOUR: 'it returns false'. Refute it at one input. -/
def boardFlipsWrong : ChangeSpec := { name := "boardFlips", fn := fun _ => fun
  | [d1, d2, d3] => { results := [.lit (.bool false)], args := [d1, d2, d3] }
  | _ => none }
def BoardFlipsWrongFalsely : Prop := boardFlipsRow.holds Try.pinned (OpenSpec.ofChange boardFlipsWrong)

/-- 'plummetlaw08.GridPlays': WHATEVER THE INPUT: true; the input reads as it did. -/
def gridPlaysSpec : ChangeSpec := { name := "gridPlays", fn := fun _ => fun
  | [d1, d2] => { results := [.lit (.bool true)], args := [d1, d2] }
  | _ => none }
def gridPlaysRow : OpenClaim := { program := "ytbbnnjcdglplkaa", sum := "75e3d948021b549aa50eb3dbc01f9de908a77f5b7fd1ec71206df42c4bed3c6e", func := "plummet/plummetlaw08.GridPlays", spec := "gridPlays", apart := false }
def GridPlaysSaid : Prop := gridPlaysRow.holds Try.pinned (OpenSpec.ofChange gridPlaysSpec)

/-- ITS FALSE NEIGHBOUR: 'it returns false'. Refute it at one input. -/
def gridPlaysWrong : ChangeSpec := { name := "gridPlays", fn := fun _ => fun
  | [d1, d2] => { results := [.lit (.bool false)], args := [d1, d2] }
  | _ => none }
def GridPlaysWrongFalsely : Prop := gridPlaysRow.holds Try.pinned (OpenSpec.ofChange gridPlaysWrong)

/-- 'plummetlaw08.GridNone': WHATEVER THE INPUT: true; the input reads as it did. -/
def gridNoneSpec : ChangeSpec := { name := "gridNone", fn := fun _ => fun
  | [d1, d2] => { results := [.lit (.bool true)], args := [d1, d2] }
  | _ => none }
def gridNoneRow : OpenClaim := { program := "ytbbnnjcdglplkaa", sum := "75e3d948021b549aa50eb3dbc01f9de908a77f5b7fd1ec71206df42c4bed3c6e", func := "plummet/plummetlaw08.GridNone", spec := "gridNone", apart := false }
def GridNoneSaid : Prop := gridNoneRow.holds Try.pinned (OpenSpec.ofChange gridNoneSpec)

/-- ITS FALSE NEIGHBOUR: 'it returns false'. Refute it at one input. -/
def gridNoneWrong : ChangeSpec := { name := "gridNone", fn := fun _ => fun
  | [d1, d2] => { results := [.lit (.bool false)], args := [d1, d2] }
  | _ => none }
def GridNoneWrongFalsely : Prop := gridNoneRow.holds Try.pinned (OpenSpec.ofChange gridNoneWrong)

/- THE SECOND FORM. 'bulk': how many values and letters a reading holds, each counted each time it is reached (what is shared counts as often as it is met; a slice's spare places count too). A statement '..UptoSaid' is the law's where the arguments, and the package variables that the reading takes, are together of bulk at most 1048576: NARROWER than '..Said'. Prove '..Said' where nothing that the law and all that it calls make is longer than what came in: it says more and counts as full. Else prove '..UptoSaid'. A law counts once. -/
mutual
def uptoBulk {H : Type} : DataW H → Nat
  | .lit (.string bytes) => bytes.length + 1
  | .lit _ => 1
  | .nil => 1
  | .ptr d => uptoBulk d + 1
  | .slice elems spare => uptoBulkAll elems + uptoBulkAll spare + 1
  | .agg parts => uptoBulkAll parts + 1
  | .iface _ d => uptoBulk d + 1
  | .map entries => uptoBulkEntries entries + 1
  | .held _ => 1
def uptoBulkAll {H : Type} : List (DataW H) → Nat
  | [] => 0
  | d :: r => uptoBulk d + uptoBulkAll r
def uptoBulkEntries {H : Type} : List (Lit × DataW H) → Nat
  | [] => 0
  | x :: r => uptoBulkEntry x + uptoBulkEntries r
def uptoBulkEntry {H : Type} : Lit × DataW H → Nat
  | (.string bytes, d) => bytes.length + uptoBulk d + 1
  | (_, d) => uptoBulk d + 1
 end
def uptoSmall : (H : Type) → List (DataW H) → Bool := fun _ ds => decide (uptoBulkAll ds ≤ 1048576)
def OpenSpec.upto (s : _root_.Go.ChangeSpec) : _root_.Go.OpenSpec := { _root_.Go.OpenSpec.ofChange s with cond := some uptoSmall }

/-- 'plummetlaw06.BoardPlaces', WHERE WHAT IT READS IS OF BULK AT MOST 1048576: true; the input reads as it did. -/
def boardPlacesUptoRow : OpenClaim := { program := "ytbbnnjcdglplkaa", sum := "75e3d948021b549aa50eb3dbc01f9de908a77f5b7fd1ec71206df42c4bed3c6e", func := "plummet/plummetlaw06.BoardPlaces", spec := "boardPlaces", apart := false, narrowed := true }
def BoardPlacesUptoSaid : Prop := boardPlacesUptoRow.holds Try.pinned (OpenSpec.upto boardPlacesSpec)

/-- 'plummetlaw06.BoardKinds', WHERE WHAT IT READS IS OF BULK AT MOST 1048576: true; the input reads as it did. -/
def boardKindsUptoRow : OpenClaim := { program := "ytbbnnjcdglplkaa", sum := "75e3d948021b549aa50eb3dbc01f9de908a77f5b7fd1ec71206df42c4bed3c6e", func := "plummet/plummetlaw06.BoardKinds", spec := "boardKinds", apart := false, narrowed := true }
def BoardKindsUptoSaid : Prop := boardKindsUptoRow.holds Try.pinned (OpenSpec.upto boardKindsSpec)

/-- 'plummetlaw17.ScoreWins', WHERE WHAT IT READS IS OF BULK AT MOST 1048576: true; the input reads as it did. -/
def scoreWinsUptoRow : OpenClaim := { program := "ytbbnnjcdglplkaa", sum := "75e3d948021b549aa50eb3dbc01f9de908a77f5b7fd1ec71206df42c4bed3c6e", func := "plummet/plummetlaw17.ScoreWins", spec := "scoreWins", recurses := true, apart := false, narrowed := true }
def ScoreWinsUptoSaid : Prop := scoreWinsUptoRow.holds Try.pinned (OpenSpec.upto scoreWinsSpec)

/-- 'plummetlaw17.ScoreRange', WHERE WHAT IT READS IS OF BULK AT MOST 1048576: true; the input reads as it did. -/
def scoreRangeUptoRow : OpenClaim := { program := "ytbbnnjcdglplkaa", sum := "75e3d948021b549aa50eb3dbc01f9de908a77f5b7fd1ec71206df42c4bed3c6e", func := "plummet/plummetlaw17.ScoreRange", spec := "scoreRange", apart := false, narrowed := true }
def ScoreRangeUptoSaid : Prop := scoreRangeUptoRow.holds Try.pinned (OpenSpec.upto scoreRangeSpec)

/-- 'plummetlaw06.BoardAll', WHERE WHAT IT READS IS OF BULK AT MOST 1048576: true; the input reads as it did. -/
def boardAllUptoRow : OpenClaim := { program := "ytbbnnjcdglplkaa", sum := "75e3d948021b549aa50eb3dbc01f9de908a77f5b7fd1ec71206df42c4bed3c6e", func := "plummet/plummetlaw06.BoardAll", spec := "boardAll", unfollowed := true, recurses := true, apart := false, narrowed := true }
def BoardAllUptoSaid : Prop := boardAllUptoRow.holds Try.pinned (OpenSpec.upto boardAllSpec)

/-- 'plummetlaw17.ScoreOf', WHERE WHAT IT READS IS OF BULK AT MOST 1048576: true; the input reads as it did. -/
def scoreOfUptoRow : OpenClaim := { program := "ytbbnnjcdglplkaa", sum := "75e3d948021b549aa50eb3dbc01f9de908a77f5b7fd1ec71206df42c4bed3c6e", func := "plummet/plummetlaw17.ScoreOf", spec := "scoreOf", apart := false, narrowed := true }
def ScoreOfUptoSaid : Prop := scoreOfUptoRow.holds Try.pinned (OpenSpec.upto scoreOfSpec)

/-- 'plummetlaw17.ScoreOrder', WHERE WHAT IT READS IS OF BULK AT MOST 1048576: true; the input reads as it did. -/
def scoreOrderUptoRow : OpenClaim := { program := "ytbbnnjcdglplkaa", sum := "75e3d948021b549aa50eb3dbc01f9de908a77f5b7fd1ec71206df42c4bed3c6e", func := "plummet/plummetlaw17.ScoreOrder", spec := "scoreOrder", apart := false, narrowed := true }
def ScoreOrderUptoSaid : Prop := scoreOrderUptoRow.holds Try.pinned (OpenSpec.upto scoreOrderSpec)

/-- 'plummetlaw08.GridFours', WHERE WHAT IT READS IS OF BULK AT MOST 1048576: true; the input reads as it did. -/
def gridFoursUptoRow : OpenClaim := { program := "ytbbnnjcdglplkaa", sum := "75e3d948021b549aa50eb3dbc01f9de908a77f5b7fd1ec71206df42c4bed3c6e", func := "plummet/plummetlaw08.GridFours", spec := "gridFours", apart := false, narrowed := true }
def GridFoursUptoSaid : Prop := gridFoursUptoRow.holds Try.pinned (OpenSpec.upto gridFoursSpec)

/-- 'plummetlaw08.GridMirror', WHERE WHAT IT READS IS OF BULK AT MOST 1048576: true; the input reads as it did. -/
def gridMirrorUptoRow : OpenClaim := { program := "ytbbnnjcdglplkaa", sum := "75e3d948021b549aa50eb3dbc01f9de908a77f5b7fd1ec71206df42c4bed3c6e", func := "plummet/plummetlaw08.GridMirror", spec := "gridMirror", apart := false, narrowed := true }
def GridMirrorUptoSaid : Prop := gridMirrorUptoRow.holds Try.pinned (OpenSpec.upto gridMirrorSpec)

/-- 'plummetlaw06.BoardFlips', WHERE WHAT IT READS IS OF BULK AT MOST 1048576: true; the input reads as it did. -/
def boardFlipsUptoRow : OpenClaim := { program := "ytbbnnjcdglplkaa", sum := "75e3d948021b549aa50eb3dbc01f9de908a77f5b7fd1ec71206df42c4bed3c6e", func := "plummet/plummetlaw06.BoardFlips", spec := "boardFlips", inPlace := ["math/bits.Sub64"], apart := false, narrowed := true }
def BoardFlipsUptoSaid : Prop := boardFlipsUptoRow.holds Try.pinned (OpenSpec.upto boardFlipsSpec)

/-- 'plummetlaw08.GridPlays', WHERE WHAT IT READS IS OF BULK AT MOST 1048576: true; the input reads as it did. -/
def gridPlaysUptoRow : OpenClaim := { program := "ytbbnnjcdglplkaa", sum := "75e3d948021b549aa50eb3dbc01f9de908a77f5b7fd1ec71206df42c4bed3c6e", func := "plummet/plummetlaw08.GridPlays", spec := "gridPlays", apart := false, narrowed := true }
def GridPlaysUptoSaid : Prop := gridPlaysUptoRow.holds Try.pinned (OpenSpec.upto gridPlaysSpec)

/-- 'plummetlaw08.GridNone', WHERE WHAT IT READS IS OF BULK AT MOST 1048576: true; the input reads as it did. -/
def gridNoneUptoRow : OpenClaim := { program := "ytbbnnjcdglplkaa", sum := "75e3d948021b549aa50eb3dbc01f9de908a77f5b7fd1ec71206df42c4bed3c6e", func := "plummet/plummetlaw08.GridNone", spec := "gridNone", apart := false, narrowed := true }
def GridNoneUptoSaid : Prop := gridNoneUptoRow.holds Try.pinned (OpenSpec.upto gridNoneSpec)

end Rows
end Go.Proofs.Ytbbnnjcdglplkaa
