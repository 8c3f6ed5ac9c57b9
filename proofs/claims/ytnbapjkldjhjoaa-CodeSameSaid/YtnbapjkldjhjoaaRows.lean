/-
  No cell of these rows narrows 'for every input' (looked for: loops, veiled, ifaces, maps, wideKeys, modest, calm, conditions, laid).
  DERIVED. THE GIVEN ROWS OF THIS SEAT. 18 by the template 'for every input the law returns true; each argument reads behind the call as it read before'; 0 by the template 'total and deterministic' (their statements: YtnbapjkldjhjoaaTotals.lean).
  GIVEN WITH THE SEED: the statements are not yours to turn. If you find one false, say at which input.
  Laid BY PROGRAM, IN A SANDBOX (cutbox-rows.mjs): the forced cells as the released guide's own fill.sh prints them over the translation 17a55990420a18c7… (all of the seat's roots in one cut). By AI agents, Wed Nov 11 2026. No macro, syntax, notation, axiom, sorry.
-/
import Derived.Test.YtnbapjkldjhjoaaChecked
import GoSem.Claim
import GoSem.ClaimJoined
import GoSem.ClaimMapViews
import Derived.JoinedTies
import Derived.KernelRfl
namespace Go.Proofs.Ytnbapjkldjhjoaa
/- THE CELL 'sum', in the pinned program and in every row, IS THE sha256 OF THE DUMP (.gsa) THAT YtnbapjkldjhjoaaProg.lean LOADS. Nothing in Lean hashes anything: it is a label: what it is worth is what the hold of that sum in a sandbox is worth. -/
noncomputable def Try.pinned : Pinned := { name := "ytnbapjkldjhjoaa", sum := "17a55990420a18c7ab7e1be53b698a876b4c8c4f677f3687eab894ddb2db33d1", checked := Try.checked }
namespace Rows
def none {H : Type} : Left H := { results := [], args := [] }

/-- 'intagliolaw05.LayoutEnds': WHATEVER THE INPUT: true; the input reads as it did. -/
def layoutEndsSpec : ChangeSpec := { name := "layoutEnds", fn := fun _ => fun
  | [d] => { results := [.lit (.bool true)], args := [d] }
  | _ => none }
def layoutEndsRow : OpenClaim := { program := "ytnbapjkldjhjoaa", sum := "17a55990420a18c7ab7e1be53b698a876b4c8c4f677f3687eab894ddb2db33d1", func := "intaglio/intagliolaw05.LayoutEnds", spec := "layoutEnds", apart := false }
def LayoutEndsSaid : Prop := layoutEndsRow.holds Try.pinned (OpenSpec.ofChange layoutEndsSpec)

/-- ITS FALSE NEIGHBOUR: 'it returns false'. Refute it at one input. -/
def layoutEndsWrong : ChangeSpec := { name := "layoutEnds", fn := fun _ => fun
  | [d] => { results := [.lit (.bool false)], args := [d] }
  | _ => none }
def LayoutEndsWrongFalsely : Prop := layoutEndsRow.holds Try.pinned (OpenSpec.ofChange layoutEndsWrong)

/-- 'intagliolaw27.EdgeAreas': WHATEVER THE INPUT: true; the input reads as it did. -/
def edgeAreasSpec : ChangeSpec := { name := "edgeAreas", fn := fun _ => fun
  | [d] => { results := [.lit (.bool true)], args := [d] }
  | _ => none }
def edgeAreasRow : OpenClaim := { program := "ytnbapjkldjhjoaa", sum := "17a55990420a18c7ab7e1be53b698a876b4c8c4f677f3687eab894ddb2db33d1", func := "intaglio/intagliolaw27.EdgeAreas", spec := "edgeAreas", apart := false }
def EdgeAreasSaid : Prop := edgeAreasRow.holds Try.pinned (OpenSpec.ofChange edgeAreasSpec)

/-- ITS FALSE NEIGHBOUR: 'it returns false'. Refute it at one input. -/
def edgeAreasWrong : ChangeSpec := { name := "edgeAreas", fn := fun _ => fun
  | [d] => { results := [.lit (.bool false)], args := [d] }
  | _ => none }
def EdgeAreasWrongFalsely : Prop := edgeAreasRow.holds Try.pinned (OpenSpec.ofChange edgeAreasWrong)

/-- 'intagliolaw27.EdgeSides': WHATEVER THE INPUT: true; the input reads as it did. -/
def edgeSidesSpec : ChangeSpec := { name := "edgeSides", fn := fun _ => fun
  | [d1, d2, d3] => { results := [.lit (.bool true)], args := [d1, d2, d3] }
  | _ => none }
def edgeSidesRow : OpenClaim := { program := "ytnbapjkldjhjoaa", sum := "17a55990420a18c7ab7e1be53b698a876b4c8c4f677f3687eab894ddb2db33d1", func := "intaglio/intagliolaw27.EdgeSides", spec := "edgeSides", apart := false }
def EdgeSidesSaid : Prop := edgeSidesRow.holds Try.pinned (OpenSpec.ofChange edgeSidesSpec)

/-- ITS FALSE NEIGHBOUR: 'it returns false'. Refute it at one input. -/
def edgeSidesWrong : ChangeSpec := { name := "edgeSides", fn := fun _ => fun
  | [d1, d2, d3] => { results := [.lit (.bool false)], args := [d1, d2, d3] }
  | _ => none }
def EdgeSidesWrongFalsely : Prop := edgeSidesRow.holds Try.pinned (OpenSpec.ofChange edgeSidesWrong)

/-- 'intagliolaw27.EdgeLines': WHATEVER THE INPUT: true; the input reads as it did. -/
def edgeLinesSpec : ChangeSpec := { name := "edgeLines", fn := fun _ => fun
  | [d1, d2, d3] => { results := [.lit (.bool true)], args := [d1, d2, d3] }
  | _ => none }
def edgeLinesRow : OpenClaim := { program := "ytnbapjkldjhjoaa", sum := "17a55990420a18c7ab7e1be53b698a876b4c8c4f677f3687eab894ddb2db33d1", func := "intaglio/intagliolaw27.EdgeLines", spec := "edgeLines", apart := false }
def EdgeLinesSaid : Prop := edgeLinesRow.holds Try.pinned (OpenSpec.ofChange edgeLinesSpec)

/-- ITS FALSE NEIGHBOUR: 'it returns false'. Refute it at one input. -/
def edgeLinesWrong : ChangeSpec := { name := "edgeLines", fn := fun _ => fun
  | [d1, d2, d3] => { results := [.lit (.bool false)], args := [d1, d2, d3] }
  | _ => none }
def EdgeLinesWrongFalsely : Prop := edgeLinesRow.holds Try.pinned (OpenSpec.ofChange edgeLinesWrong)

/-- 'intagliolaw04.CodeSame': WHATEVER THE INPUT: true; the input reads as it did. -/
def codeSameSpec : ChangeSpec := { name := "codeSame", fn := fun _ => fun
  | [d1, d2] => { results := [.lit (.bool true)], args := [d1, d2] }
  | _ => none }
def codeSameRow : OpenClaim := { program := "ytnbapjkldjhjoaa", sum := "17a55990420a18c7ab7e1be53b698a876b4c8c4f677f3687eab894ddb2db33d1", func := "intaglio/intagliolaw04.CodeSame", spec := "codeSame", unfollowed := true, recurses := true, apart := false }
def CodeSameSaid : Prop := codeSameRow.holds Try.pinned (OpenSpec.ofChange codeSameSpec)

/-- ITS FALSE NEIGHBOUR: 'it returns false'. Refute it at one input. -/
def codeSameWrong : ChangeSpec := { name := "codeSame", fn := fun _ => fun
  | [d1, d2] => { results := [.lit (.bool false)], args := [d1, d2] }
  | _ => none }
def CodeSameWrongFalsely : Prop := codeSameRow.holds Try.pinned (OpenSpec.ofChange codeSameWrong)

/-- 'intagliolaw27.EdgeCovers': WHATEVER THE INPUT: true; the input reads as it did. -/
def edgeCoversSpec : ChangeSpec := { name := "edgeCovers", fn := fun _ => fun
  | [d1, d2, d3] => { results := [.lit (.bool true)], args := [d1, d2, d3] }
  | _ => none }
def edgeCoversRow : OpenClaim := { program := "ytnbapjkldjhjoaa", sum := "17a55990420a18c7ab7e1be53b698a876b4c8c4f677f3687eab894ddb2db33d1", func := "intaglio/intagliolaw27.EdgeCovers", spec := "edgeCovers", unfollowed := true, recurses := true, apart := false }
def EdgeCoversSaid : Prop := edgeCoversRow.holds Try.pinned (OpenSpec.ofChange edgeCoversSpec)

/-- ITS FALSE NEIGHBOUR: 'it returns false'. Refute it at one input. -/
def edgeCoversWrong : ChangeSpec := { name := "edgeCovers", fn := fun _ => fun
  | [d1, d2, d3] => { results := [.lit (.bool false)], args := [d1, d2, d3] }
  | _ => none }
def EdgeCoversWrongFalsely : Prop := edgeCoversRow.holds Try.pinned (OpenSpec.ofChange edgeCoversWrong)

/-- 'intagliolaw27.EdgeTurned': WHATEVER THE INPUT: true; the input reads as it did. -/
def edgeTurnedSpec : ChangeSpec := { name := "edgeTurned", fn := fun _ => fun
  | [d1, d2, d3] => { results := [.lit (.bool true)], args := [d1, d2, d3] }
  | _ => none }
def edgeTurnedRow : OpenClaim := { program := "ytnbapjkldjhjoaa", sum := "17a55990420a18c7ab7e1be53b698a876b4c8c4f677f3687eab894ddb2db33d1", func := "intaglio/intagliolaw27.EdgeTurned", spec := "edgeTurned", unfollowed := true, recurses := true, apart := false }
def EdgeTurnedSaid : Prop := edgeTurnedRow.holds Try.pinned (OpenSpec.ofChange edgeTurnedSpec)

/-- ITS FALSE NEIGHBOUR: 'it returns false'. Refute it at one input. -/
def edgeTurnedWrong : ChangeSpec := { name := "edgeTurned", fn := fun _ => fun
  | [d1, d2, d3] => { results := [.lit (.bool false)], args := [d1, d2, d3] }
  | _ => none }
def EdgeTurnedWrongFalsely : Prop := edgeTurnedRow.holds Try.pinned (OpenSpec.ofChange edgeTurnedWrong)

/-- 'intagliolaw27.EdgeShared': WHATEVER THE INPUT: true; the input reads as it did. -/
def edgeSharedSpec : ChangeSpec := { name := "edgeShared", fn := fun _ => fun
  | [d1, d2, d3] => { results := [.lit (.bool true)], args := [d1, d2, d3] }
  | _ => none }
def edgeSharedRow : OpenClaim := { program := "ytnbapjkldjhjoaa", sum := "17a55990420a18c7ab7e1be53b698a876b4c8c4f677f3687eab894ddb2db33d1", func := "intaglio/intagliolaw27.EdgeShared", spec := "edgeShared", unfollowed := true, recurses := true, apart := false }
def EdgeSharedSaid : Prop := edgeSharedRow.holds Try.pinned (OpenSpec.ofChange edgeSharedSpec)

/-- ITS FALSE NEIGHBOUR: 'it returns false'. Refute it at one input. -/
def edgeSharedWrong : ChangeSpec := { name := "edgeShared", fn := fun _ => fun
  | [d1, d2, d3] => { results := [.lit (.bool false)], args := [d1, d2, d3] }
  | _ => none }
def EdgeSharedWrongFalsely : Prop := edgeSharedRow.holds Try.pinned (OpenSpec.ofChange edgeSharedWrong)

/-- 'intagliolaw27.EdgeWithin': WHATEVER THE INPUT: true; the input reads as it did. -/
def edgeWithinSpec : ChangeSpec := { name := "edgeWithin", fn := fun _ => fun
  | [d1, d2, d3] => { results := [.lit (.bool true)], args := [d1, d2, d3] }
  | _ => none }
def edgeWithinRow : OpenClaim := { program := "ytnbapjkldjhjoaa", sum := "17a55990420a18c7ab7e1be53b698a876b4c8c4f677f3687eab894ddb2db33d1", func := "intaglio/intagliolaw27.EdgeWithin", spec := "edgeWithin", unfollowed := true, recurses := true, apart := false }
def EdgeWithinSaid : Prop := edgeWithinRow.holds Try.pinned (OpenSpec.ofChange edgeWithinSpec)

/-- ITS FALSE NEIGHBOUR: 'it returns false'. Refute it at one input. -/
def edgeWithinWrong : ChangeSpec := { name := "edgeWithin", fn := fun _ => fun
  | [d1, d2, d3] => { results := [.lit (.bool false)], args := [d1, d2, d3] }
  | _ => none }
def EdgeWithinWrongFalsely : Prop := edgeWithinRow.holds Try.pinned (OpenSpec.ofChange edgeWithinWrong)

/-- 'intagliolaw28.CoverBox': WHATEVER THE INPUT: true; the input reads as it did. -/
def coverBoxSpec : ChangeSpec := { name := "coverBox", fn := fun _ => fun
  | [d1, d2, d3] => { results := [.lit (.bool true)], args := [d1, d2, d3] }
  | _ => none }
def coverBoxRow : OpenClaim := { program := "ytnbapjkldjhjoaa", sum := "17a55990420a18c7ab7e1be53b698a876b4c8c4f677f3687eab894ddb2db33d1", func := "intaglio/intagliolaw28.CoverBox", spec := "coverBox", unfollowed := true, recurses := true, apart := false }
def CoverBoxSaid : Prop := coverBoxRow.holds Try.pinned (OpenSpec.ofChange coverBoxSpec)

/-- ITS FALSE NEIGHBOUR: 'it returns false'. Refute it at one input. -/
def coverBoxWrong : ChangeSpec := { name := "coverBox", fn := fun _ => fun
  | [d1, d2, d3] => { results := [.lit (.bool false)], args := [d1, d2, d3] }
  | _ => none }
def CoverBoxWrongFalsely : Prop := coverBoxRow.holds Try.pinned (OpenSpec.ofChange coverBoxWrong)

/-- 'intagliolaw28.CoverRows': WHATEVER THE INPUT: true; the input reads as it did. -/
def coverRowsSpec : ChangeSpec := { name := "coverRows", fn := fun _ => fun
  | [d1, d2, d3] => { results := [.lit (.bool true)], args := [d1, d2, d3] }
  | _ => none }
def coverRowsRow : OpenClaim := { program := "ytnbapjkldjhjoaa", sum := "17a55990420a18c7ab7e1be53b698a876b4c8c4f677f3687eab894ddb2db33d1", func := "intaglio/intagliolaw28.CoverRows", spec := "coverRows", unfollowed := true, recurses := true, apart := false }
def CoverRowsSaid : Prop := coverRowsRow.holds Try.pinned (OpenSpec.ofChange coverRowsSpec)

/-- ITS FALSE NEIGHBOUR: 'it returns false'. Refute it at one input. -/
def coverRowsWrong : ChangeSpec := { name := "coverRows", fn := fun _ => fun
  | [d1, d2, d3] => { results := [.lit (.bool false)], args := [d1, d2, d3] }
  | _ => none }
def CoverRowsWrongFalsely : Prop := coverRowsRow.holds Try.pinned (OpenSpec.ofChange coverRowsWrong)

/-- 'intagliolaw28.CoverTrue': WHATEVER THE INPUT: true; the input reads as it did. -/
def coverTrueSpec : ChangeSpec := { name := "coverTrue", fn := fun _ => fun
  | [d1, d2, d3, d4, d5] => { results := [.lit (.bool true)], args := [d1, d2, d3, d4, d5] }
  | _ => none }
def coverTrueRow : OpenClaim := { program := "ytnbapjkldjhjoaa", sum := "17a55990420a18c7ab7e1be53b698a876b4c8c4f677f3687eab894ddb2db33d1", func := "intaglio/intagliolaw28.CoverTrue", spec := "coverTrue", unfollowed := true, recurses := true, apart := false }
def CoverTrueSaid : Prop := coverTrueRow.holds Try.pinned (OpenSpec.ofChange coverTrueSpec)

/-- ITS FALSE NEIGHBOUR: 'it returns false'. Refute it at one input. -/
def coverTrueWrong : ChangeSpec := { name := "coverTrue", fn := fun _ => fun
  | [d1, d2, d3, d4, d5] => { results := [.lit (.bool false)], args := [d1, d2, d3, d4, d5] }
  | _ => none }
def CoverTrueWrongFalsely : Prop := coverTrueRow.holds Try.pinned (OpenSpec.ofChange coverTrueWrong)

/-- 'intagliolaw28.CoverTurned': WHATEVER THE INPUT: true; the input reads as it did. -/
def coverTurnedSpec : ChangeSpec := { name := "coverTurned", fn := fun _ => fun
  | [d1, d2, d3, d4] => { results := [.lit (.bool true)], args := [d1, d2, d3, d4] }
  | _ => none }
def coverTurnedRow : OpenClaim := { program := "ytnbapjkldjhjoaa", sum := "17a55990420a18c7ab7e1be53b698a876b4c8c4f677f3687eab894ddb2db33d1", func := "intaglio/intagliolaw28.CoverTurned", spec := "coverTurned", unfollowed := true, recurses := true, apart := false }
def CoverTurnedSaid : Prop := coverTurnedRow.holds Try.pinned (OpenSpec.ofChange coverTurnedSpec)

/-- ITS FALSE NEIGHBOUR: 'it returns false'. Refute it at one input. -/
def coverTurnedWrong : ChangeSpec := { name := "coverTurned", fn := fun _ => fun
  | [d1, d2, d3, d4] => { results := [.lit (.bool false)], args := [d1, d2, d3, d4] }
  | _ => none }
def CoverTurnedWrongFalsely : Prop := coverTurnedRow.holds Try.pinned (OpenSpec.ofChange coverTurnedWrong)

/-- 'intagliolaw28.CoverMoved': WHATEVER THE INPUT: true; the input reads as it did. -/
def coverMovedSpec : ChangeSpec := { name := "coverMoved", fn := fun _ => fun
  | [d1, d2, d3, d4, d5] => { results := [.lit (.bool true)], args := [d1, d2, d3, d4, d5] }
  | _ => none }
def coverMovedRow : OpenClaim := { program := "ytnbapjkldjhjoaa", sum := "17a55990420a18c7ab7e1be53b698a876b4c8c4f677f3687eab894ddb2db33d1", func := "intaglio/intagliolaw28.CoverMoved", spec := "coverMoved", unfollowed := true, recurses := true, apart := false }
def CoverMovedSaid : Prop := coverMovedRow.holds Try.pinned (OpenSpec.ofChange coverMovedSpec)

/-- ITS FALSE NEIGHBOUR: 'it returns false'. Refute it at one input. -/
def coverMovedWrong : ChangeSpec := { name := "coverMoved", fn := fun _ => fun
  | [d1, d2, d3, d4, d5] => { results := [.lit (.bool false)], args := [d1, d2, d3, d4, d5] }
  | _ => none }
def CoverMovedWrongFalsely : Prop := coverMovedRow.holds Try.pinned (OpenSpec.ofChange coverMovedWrong)

/-- 'intagliolaw28.CoverShared': WHATEVER THE INPUT: true; the input reads as it did. -/
def coverSharedSpec : ChangeSpec := { name := "coverShared", fn := fun _ => fun
  | [d1, d2, d3, d4, d5, d6] => { results := [.lit (.bool true)], args := [d1, d2, d3, d4, d5, d6] }
  | _ => none }
def coverSharedRow : OpenClaim := { program := "ytnbapjkldjhjoaa", sum := "17a55990420a18c7ab7e1be53b698a876b4c8c4f677f3687eab894ddb2db33d1", func := "intaglio/intagliolaw28.CoverShared", spec := "coverShared", unfollowed := true, recurses := true, apart := false }
def CoverSharedSaid : Prop := coverSharedRow.holds Try.pinned (OpenSpec.ofChange coverSharedSpec)

/-- ITS FALSE NEIGHBOUR: 'it returns false'. Refute it at one input. -/
def coverSharedWrong : ChangeSpec := { name := "coverShared", fn := fun _ => fun
  | [d1, d2, d3, d4, d5, d6] => { results := [.lit (.bool false)], args := [d1, d2, d3, d4, d5, d6] }
  | _ => none }
def CoverSharedWrongFalsely : Prop := coverSharedRow.holds Try.pinned (OpenSpec.ofChange coverSharedWrong)

/-- 'intagliotop.WholeSquare': WHATEVER THE INPUT: true; the input reads as it did. -/
def wholeSquareSpec : ChangeSpec := { name := "wholeSquare", fn := fun _ => fun
  | [d1, d2, d3] => { results := [.lit (.bool true)], args := [d1, d2, d3] }
  | _ => none }
def wholeSquareRow : OpenClaim := { program := "ytnbapjkldjhjoaa", sum := "17a55990420a18c7ab7e1be53b698a876b4c8c4f677f3687eab894ddb2db33d1", func := "intaglio/intagliotop.WholeSquare", spec := "wholeSquare", unfollowed := true, recurses := true, apart := false }
def WholeSquareSaid : Prop := wholeSquareRow.holds Try.pinned (OpenSpec.ofChange wholeSquareSpec)

/-- ITS FALSE NEIGHBOUR: 'it returns false'. Refute it at one input. -/
def wholeSquareWrong : ChangeSpec := { name := "wholeSquare", fn := fun _ => fun
  | [d1, d2, d3] => { results := [.lit (.bool false)], args := [d1, d2, d3] }
  | _ => none }
def WholeSquareWrongFalsely : Prop := wholeSquareRow.holds Try.pinned (OpenSpec.ofChange wholeSquareWrong)

/-- 'intagliolaw28.CoverPixels': WHATEVER THE INPUT: true; the input reads as it did. -/
def coverPixelsSpec : ChangeSpec := { name := "coverPixels", fn := fun _ => fun
  | [d1, d2, d3, d4] => { results := [.lit (.bool true)], args := [d1, d2, d3, d4] }
  | _ => none }
def coverPixelsRow : OpenClaim := { program := "ytnbapjkldjhjoaa", sum := "17a55990420a18c7ab7e1be53b698a876b4c8c4f677f3687eab894ddb2db33d1", func := "intaglio/intagliolaw28.CoverPixels", spec := "coverPixels", unfollowed := true, recurses := true, apart := false }
def CoverPixelsSaid : Prop := coverPixelsRow.holds Try.pinned (OpenSpec.ofChange coverPixelsSpec)

/-- ITS FALSE NEIGHBOUR: 'it returns false'. Refute it at one input. -/
def coverPixelsWrong : ChangeSpec := { name := "coverPixels", fn := fun _ => fun
  | [d1, d2, d3, d4] => { results := [.lit (.bool false)], args := [d1, d2, d3, d4] }
  | _ => none }
def CoverPixelsWrongFalsely : Prop := coverPixelsRow.holds Try.pinned (OpenSpec.ofChange coverPixelsWrong)

/-- 'intagliolaw28.CoverCounts': WHATEVER THE INPUT: true; the input reads as it did. -/
def coverCountsSpec : ChangeSpec := { name := "coverCounts", fn := fun _ => fun
  | [d1, d2, d3] => { results := [.lit (.bool true)], args := [d1, d2, d3] }
  | _ => none }
def coverCountsRow : OpenClaim := { program := "ytnbapjkldjhjoaa", sum := "17a55990420a18c7ab7e1be53b698a876b4c8c4f677f3687eab894ddb2db33d1", func := "intaglio/intagliolaw28.CoverCounts", spec := "coverCounts", unfollowed := true, recurses := true, apart := false }
def CoverCountsSaid : Prop := coverCountsRow.holds Try.pinned (OpenSpec.ofChange coverCountsSpec)

/-- ITS FALSE NEIGHBOUR: 'it returns false'. Refute it at one input. -/
def coverCountsWrong : ChangeSpec := { name := "coverCounts", fn := fun _ => fun
  | [d1, d2, d3] => { results := [.lit (.bool false)], args := [d1, d2, d3] }
  | _ => none }
def CoverCountsWrongFalsely : Prop := coverCountsRow.holds Try.pinned (OpenSpec.ofChange coverCountsWrong)

/- THE SECOND FORM. 'bulk': how many values and letters a reading holds, each counted each time it is reached (what is shared counts as often as it is met; a slice's spare places count too). A statement '..UptoSaid' is the law's where the arguments, and the package variables that the reading takes, are together of bulk at most 1048576: NARROWER than '..Said'. Prove '..Said' where nothing that the law and all that it calls make is longer than what came in: it says more and counts as full. Else prove '..UptoSaid'. A law counts once. -/
mutual
def uptoBulk {H : Type} : DataW H → Nat
  | .lit (.string bytes) => bytes.length + 1
  | .lit _ => 1
  | .nil => 1
  | .ptr d => uptoBulk d + 1
  | .slice elems spare => uptoBulkAll elems + uptoBulkAll spare + 1
  | .agg parts => uptoBulkAll parts + 1
  | .iface _ d => uptoBulk d + 1
  | .map entries => uptoBulkEntries entries + 1
  | .held _ => 1
def uptoBulkAll {H : Type} : List (DataW H) → Nat
  | [] => 0
  | d :: r => uptoBulk d + uptoBulkAll r
def uptoBulkEntries {H : Type} : List (Lit × DataW H) → Nat
  | [] => 0
  | x :: r => uptoBulkEntry x + uptoBulkEntries r
def uptoBulkEntry {H : Type} : Lit × DataW H → Nat
  | (.string bytes, d) => bytes.length + uptoBulk d + 1
  | (_, d) => uptoBulk d + 1
 end
def uptoSmall : (H : Type) → List (DataW H) → Bool := fun _ ds => decide (uptoBulkAll ds ≤ 1048576)
def OpenSpec.upto (s : _root_.Go.ChangeSpec) : _root_.Go.OpenSpec := { _root_.Go.OpenSpec.ofChange s with cond := some uptoSmall }

/-- 'intagliolaw05.LayoutEnds', WHERE WHAT IT READS IS OF BULK AT MOST 1048576: true; the input reads as it did. -/
def layoutEndsUptoRow : OpenClaim := { program := "ytnbapjkldjhjoaa", sum := "17a55990420a18c7ab7e1be53b698a876b4c8c4f677f3687eab894ddb2db33d1", func := "intaglio/intagliolaw05.LayoutEnds", spec := "layoutEnds", apart := false, narrowed := true }
def LayoutEndsUptoSaid : Prop := layoutEndsUptoRow.holds Try.pinned (OpenSpec.upto layoutEndsSpec)

/-- 'intagliolaw27.EdgeAreas', WHERE WHAT IT READS IS OF BULK AT MOST 1048576: true; the input reads as it did. -/
def edgeAreasUptoRow : OpenClaim := { program := "ytnbapjkldjhjoaa", sum := "17a55990420a18c7ab7e1be53b698a876b4c8c4f677f3687eab894ddb2db33d1", func := "intaglio/intagliolaw27.EdgeAreas", spec := "edgeAreas", apart := false, narrowed := true }
def EdgeAreasUptoSaid : Prop := edgeAreasUptoRow.holds Try.pinned (OpenSpec.upto edgeAreasSpec)

/-- 'intagliolaw27.EdgeSides', WHERE WHAT IT READS IS OF BULK AT MOST 1048576: true; the input reads as it did. -/
def edgeSidesUptoRow : OpenClaim := { program := "ytnbapjkldjhjoaa", sum := "17a55990420a18c7ab7e1be53b698a876b4c8c4f677f3687eab894ddb2db33d1", func := "intaglio/intagliolaw27.EdgeSides", spec := "edgeSides", apart := false, narrowed := true }
def EdgeSidesUptoSaid : Prop := edgeSidesUptoRow.holds Try.pinned (OpenSpec.upto edgeSidesSpec)

/-- 'intagliolaw27.EdgeLines', WHERE WHAT IT READS IS OF BULK AT MOST 1048576: true; the input reads as it did. -/
def edgeLinesUptoRow : OpenClaim := { program := "ytnbapjkldjhjoaa", sum := "17a55990420a18c7ab7e1be53b698a876b4c8c4f677f3687eab894ddb2db33d1", func := "intaglio/intagliolaw27.EdgeLines", spec := "edgeLines", apart := false, narrowed := true }
def EdgeLinesUptoSaid : Prop := edgeLinesUptoRow.holds Try.pinned (OpenSpec.upto edgeLinesSpec)

/-- 'intagliolaw04.CodeSame', WHERE WHAT IT READS IS OF BULK AT MOST 1048576: true; the input reads as it did. -/
def codeSameUptoRow : OpenClaim := { program := "ytnbapjkldjhjoaa", sum := "17a55990420a18c7ab7e1be53b698a876b4c8c4f677f3687eab894ddb2db33d1", func := "intaglio/intagliolaw04.CodeSame", spec := "codeSame", unfollowed := true, recurses := true, apart := false, narrowed := true }
def CodeSameUptoSaid : Prop := codeSameUptoRow.holds Try.pinned (OpenSpec.upto codeSameSpec)

/-- 'intagliolaw27.EdgeCovers', WHERE WHAT IT READS IS OF BULK AT MOST 1048576: true; the input reads as it did. -/
def edgeCoversUptoRow : OpenClaim := { program := "ytnbapjkldjhjoaa", sum := "17a55990420a18c7ab7e1be53b698a876b4c8c4f677f3687eab894ddb2db33d1", func := "intaglio/intagliolaw27.EdgeCovers", spec := "edgeCovers", unfollowed := true, recurses := true, apart := false, narrowed := true }
def EdgeCoversUptoSaid : Prop := edgeCoversUptoRow.holds Try.pinned (OpenSpec.upto edgeCoversSpec)

/-- 'intagliolaw27.EdgeTurned', WHERE WHAT IT READS IS OF BULK AT MOST 1048576: true; the input reads as it did. -/
def edgeTurnedUptoRow : OpenClaim := { program := "ytnbapjkldjhjoaa", sum := "17a55990420a18c7ab7e1be53b698a876b4c8c4f677f3687eab894ddb2db33d1", func := "intaglio/intagliolaw27.EdgeTurned", spec := "edgeTurned", unfollowed := true, recurses := true, apart := false, narrowed := true }
def EdgeTurnedUptoSaid : Prop := edgeTurnedUptoRow.holds Try.pinned (OpenSpec.upto edgeTurnedSpec)

/-- 'intagliolaw27.EdgeShared', WHERE WHAT IT READS IS OF BULK AT MOST 1048576: true; the input reads as it did. -/
def edgeSharedUptoRow : OpenClaim := { program := "ytnbapjkldjhjoaa", sum := "17a55990420a18c7ab7e1be53b698a876b4c8c4f677f3687eab894ddb2db33d1", func := "intaglio/intagliolaw27.EdgeShared", spec := "edgeShared", unfollowed := true, recurses := true, apart := false, narrowed := true }
def EdgeSharedUptoSaid : Prop := edgeSharedUptoRow.holds Try.pinned (OpenSpec.upto edgeSharedSpec)

/-- 'intagliolaw27.EdgeWithin', WHERE WHAT IT READS IS OF BULK AT MOST 1048576: true; the input reads as it did. -/
def edgeWithinUptoRow : OpenClaim := { program := "ytnbapjkldjhjoaa", sum := "17a55990420a18c7ab7e1be53b698a876b4c8c4f677f3687eab894ddb2db33d1", func := "intaglio/intagliolaw27.EdgeWithin", spec := "edgeWithin", unfollowed := true, recurses := true, apart := false, narrowed := true }
def EdgeWithinUptoSaid : Prop := edgeWithinUptoRow.holds Try.pinned (OpenSpec.upto edgeWithinSpec)

/-- 'intagliolaw28.CoverBox', WHERE WHAT IT READS IS OF BULK AT MOST 1048576: true; the input reads as it did. -/
def coverBoxUptoRow : OpenClaim := { program := "ytnbapjkldjhjoaa", sum := "17a55990420a18c7ab7e1be53b698a876b4c8c4f677f3687eab894ddb2db33d1", func := "intaglio/intagliolaw28.CoverBox", spec := "coverBox", unfollowed := true, recurses := true, apart := false, narrowed := true }
def CoverBoxUptoSaid : Prop := coverBoxUptoRow.holds Try.pinned (OpenSpec.upto coverBoxSpec)

/-- 'intagliolaw28.CoverRows', WHERE WHAT IT READS IS OF BULK AT MOST 1048576: true; the input reads as it did. -/
def coverRowsUptoRow : OpenClaim := { program := "ytnbapjkldjhjoaa", sum := "17a55990420a18c7ab7e1be53b698a876b4c8c4f677f3687eab894ddb2db33d1", func := "intaglio/intagliolaw28.CoverRows", spec := "coverRows", unfollowed := true, recurses := true, apart := false, narrowed := true }
def CoverRowsUptoSaid : Prop := coverRowsUptoRow.holds Try.pinned (OpenSpec.upto coverRowsSpec)

/-- 'intagliolaw28.CoverTrue', WHERE WHAT IT READS IS OF BULK AT MOST 1048576: true; the input reads as it did. -/
def coverTrueUptoRow : OpenClaim := { program := "ytnbapjkldjhjoaa", sum := "17a55990420a18c7ab7e1be53b698a876b4c8c4f677f3687eab894ddb2db33d1", func := "intaglio/intagliolaw28.CoverTrue", spec := "coverTrue", unfollowed := true, recurses := true, apart := false, narrowed := true }
def CoverTrueUptoSaid : Prop := coverTrueUptoRow.holds Try.pinned (OpenSpec.upto coverTrueSpec)

/-- 'intagliolaw28.CoverTurned', WHERE WHAT IT READS IS OF BULK AT MOST 1048576: true; the input reads as it did. -/
def coverTurnedUptoRow : OpenClaim := { program := "ytnbapjkldjhjoaa", sum := "17a55990420a18c7ab7e1be53b698a876b4c8c4f677f3687eab894ddb2db33d1", func := "intaglio/intagliolaw28.CoverTurned", spec := "coverTurned", unfollowed := true, recurses := true, apart := false, narrowed := true }
def CoverTurnedUptoSaid : Prop := coverTurnedUptoRow.holds Try.pinned (OpenSpec.upto coverTurnedSpec)

/-- 'intagliolaw28.CoverMoved', WHERE WHAT IT READS IS OF BULK AT MOST 1048576: true; the input reads as it did. -/
def coverMovedUptoRow : OpenClaim := { program := "ytnbapjkldjhjoaa", sum := "17a55990420a18c7ab7e1be53b698a876b4c8c4f677f3687eab894ddb2db33d1", func := "intaglio/intagliolaw28.CoverMoved", spec := "coverMoved", unfollowed := true, recurses := true, apart := false, narrowed := true }
def CoverMovedUptoSaid : Prop := coverMovedUptoRow.holds Try.pinned (OpenSpec.upto coverMovedSpec)

/-- 'intagliolaw28.CoverShared', WHERE WHAT IT READS IS OF BULK AT MOST 1048576: true; the input reads as it did. -/
def coverSharedUptoRow : OpenClaim := { program := "ytnbapjkldjhjoaa", sum := "17a55990420a18c7ab7e1be53b698a876b4c8c4f677f3687eab894ddb2db33d1", func := "intaglio/intagliolaw28.CoverShared", spec := "coverShared", unfollowed := true, recurses := true, apart := false, narrowed := true }
def CoverSharedUptoSaid : Prop := coverSharedUptoRow.holds Try.pinned (OpenSpec.upto coverSharedSpec)

/-- 'intagliotop.WholeSquare', WHERE WHAT IT READS IS OF BULK AT MOST 1048576: true; the input reads as it did. -/
def wholeSquareUptoRow : OpenClaim := { program := "ytnbapjkldjhjoaa", sum := "17a55990420a18c7ab7e1be53b698a876b4c8c4f677f3687eab894ddb2db33d1", func := "intaglio/intagliotop.WholeSquare", spec := "wholeSquare", unfollowed := true, recurses := true, apart := false, narrowed := true }
def WholeSquareUptoSaid : Prop := wholeSquareUptoRow.holds Try.pinned (OpenSpec.upto wholeSquareSpec)

/-- 'intagliolaw28.CoverPixels', WHERE WHAT IT READS IS OF BULK AT MOST 1048576: true; the input reads as it did. -/
def coverPixelsUptoRow : OpenClaim := { program := "ytnbapjkldjhjoaa", sum := "17a55990420a18c7ab7e1be53b698a876b4c8c4f677f3687eab894ddb2db33d1", func := "intaglio/intagliolaw28.CoverPixels", spec := "coverPixels", unfollowed := true, recurses := true, apart := false, narrowed := true }
def CoverPixelsUptoSaid : Prop := coverPixelsUptoRow.holds Try.pinned (OpenSpec.upto coverPixelsSpec)

/-- 'intagliolaw28.CoverCounts', WHERE WHAT IT READS IS OF BULK AT MOST 1048576: true; the input reads as it did. -/
def coverCountsUptoRow : OpenClaim := { program := "ytnbapjkldjhjoaa", sum := "17a55990420a18c7ab7e1be53b698a876b4c8c4f677f3687eab894ddb2db33d1", func := "intaglio/intagliolaw28.CoverCounts", spec := "coverCounts", unfollowed := true, recurses := true, apart := false, narrowed := true }
def CoverCountsUptoSaid : Prop := coverCountsUptoRow.holds Try.pinned (OpenSpec.upto coverCountsSpec)

end Rows
end Go.Proofs.Ytnbapjkldjhjoaa
