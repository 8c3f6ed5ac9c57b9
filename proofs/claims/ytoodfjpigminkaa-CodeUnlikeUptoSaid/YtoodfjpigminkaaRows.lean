/-
  No cell of these rows narrows 'for every input' (looked for: loops, veiled, ifaces, maps, wideKeys, modest, calm, conditions, laid).
  DERIVED. THE GIVEN ROWS OF THIS SEAT. 10 by the template 'for every input the law returns true; each argument reads behind the call as it read before'; 0 by the template 'total and deterministic' (their statements: YtoodfjpigminkaaTotals.lean).
  GIVEN WITH THE SEED: the statements are not yours to turn. If you find one false, say at which input.
  Laid BY PROGRAM, IN A SANDBOX (cutbox-rows.mjs): the forced cells as the released guide's own fill.sh prints them over the translation 8d17b899a63e02af… (all of the seat's roots in one cut). By AI agents, Wed Nov 11 2026. No macro, syntax, notation, axiom, sorry.
-/
import Derived.Test.YtoodfjpigminkaaChecked
import GoSem.Claim
import GoSem.ClaimJoined
import GoSem.ClaimMapViews
import Derived.JoinedTies
import Derived.KernelRfl
namespace Go.Proofs.Ytoodfjpigminkaa
/- THE CELL 'sum', in the pinned program and in every row, IS THE sha256 OF THE DUMP (.gsa) THAT YtoodfjpigminkaaProg.lean LOADS. Nothing in Lean hashes anything: it is a label: what it is worth is what the hold of that sum in a sandbox is worth. -/
noncomputable def Try.pinned : Pinned := { name := "ytoodfjpigminkaa", sum := "8d17b899a63e02afea31f2596e342872498e2adf25bc3e7c35db2952e3397cc9", checked := Try.checked }
namespace Rows
def none {H : Type} : Left H := { results := [], args := [] }

/-- 'intagliolaw04.CodeDecodes': WHATEVER THE INPUT: true; the input reads as it did. -/
def codeDecodesSpec : ChangeSpec := { name := "codeDecodes", fn := fun _ => fun
  | [d] => { results := [.lit (.bool true)], args := [d] }
  | _ => none }
def codeDecodesRow : OpenClaim := { program := "ytoodfjpigminkaa", sum := "8d17b899a63e02afea31f2596e342872498e2adf25bc3e7c35db2952e3397cc9", func := "intaglio/intagliolaw04.CodeDecodes", spec := "codeDecodes", inPlace := ["internal/bytealg.IndexByteString"], unfollowed := true, recurses := true, apart := false }
def CodeDecodesSaid : Prop := codeDecodesRow.holds Try.pinned (OpenSpec.ofChange codeDecodesSpec)

/-- ITS FALSE NEIGHBOUR: 'it returns false'. Refute it at one input. -/
def codeDecodesWrong : ChangeSpec := { name := "codeDecodes", fn := fun _ => fun
  | [d] => { results := [.lit (.bool false)], args := [d] }
  | _ => none }
def CodeDecodesWrongFalsely : Prop := codeDecodesRow.holds Try.pinned (OpenSpec.ofChange codeDecodesWrong)

/-- 'intagliolaw04.CodeEncodes': WHATEVER THE INPUT: true; the input reads as it did. -/
def codeEncodesSpec : ChangeSpec := { name := "codeEncodes", fn := fun _ => fun
  | [d] => { results := [.lit (.bool true)], args := [d] }
  | _ => none }
def codeEncodesRow : OpenClaim := { program := "ytoodfjpigminkaa", sum := "8d17b899a63e02afea31f2596e342872498e2adf25bc3e7c35db2952e3397cc9", func := "intaglio/intagliolaw04.CodeEncodes", spec := "codeEncodes", inPlace := ["internal/bytealg.IndexByteString"], unfollowed := true, recurses := true, apart := false }
def CodeEncodesSaid : Prop := codeEncodesRow.holds Try.pinned (OpenSpec.ofChange codeEncodesSpec)

/-- ITS FALSE NEIGHBOUR: 'it returns false'. Refute it at one input. -/
def codeEncodesWrong : ChangeSpec := { name := "codeEncodes", fn := fun _ => fun
  | [d] => { results := [.lit (.bool false)], args := [d] }
  | _ => none }
def CodeEncodesWrongFalsely : Prop := codeEncodesRow.holds Try.pinned (OpenSpec.ofChange codeEncodesWrong)

/-- 'intagliolaw04.CodeInst': WHATEVER THE INPUT: true; the input reads as it did. -/
def codeInstSpec : ChangeSpec := { name := "codeInst", fn := fun _ => fun
  | [d1, d2] => { results := [.lit (.bool true)], args := [d1, d2] }
  | _ => none }
def codeInstRow : OpenClaim := { program := "ytoodfjpigminkaa", sum := "8d17b899a63e02afea31f2596e342872498e2adf25bc3e7c35db2952e3397cc9", func := "intaglio/intagliolaw04.CodeInst", spec := "codeInst", inPlace := ["internal/bytealg.IndexByteString"], unfollowed := true, recurses := true, apart := false }
def CodeInstSaid : Prop := codeInstRow.holds Try.pinned (OpenSpec.ofChange codeInstSpec)

/-- ITS FALSE NEIGHBOUR: 'it returns false'. Refute it at one input. -/
def codeInstWrong : ChangeSpec := { name := "codeInst", fn := fun _ => fun
  | [d1, d2] => { results := [.lit (.bool false)], args := [d1, d2] }
  | _ => none }
def CodeInstWrongFalsely : Prop := codeInstRow.holds Try.pinned (OpenSpec.ofChange codeInstWrong)

/-- 'intagliolaw04.CodeRaw': WHATEVER THE INPUT: true; the input reads as it did. -/
def codeRawSpec : ChangeSpec := { name := "codeRaw", fn := fun _ => fun
  | [d1, d2] => { results := [.lit (.bool true)], args := [d1, d2] }
  | _ => none }
def codeRawRow : OpenClaim := { program := "ytoodfjpigminkaa", sum := "8d17b899a63e02afea31f2596e342872498e2adf25bc3e7c35db2952e3397cc9", func := "intaglio/intagliolaw04.CodeRaw", spec := "codeRaw", inPlace := ["internal/bytealg.IndexByteString"], unfollowed := true, recurses := true, apart := false }
def CodeRawSaid : Prop := codeRawRow.holds Try.pinned (OpenSpec.ofChange codeRawSpec)

/-- ITS FALSE NEIGHBOUR: 'it returns false'. Refute it at one input. -/
def codeRawWrong : ChangeSpec := { name := "codeRaw", fn := fun _ => fun
  | [d1, d2] => { results := [.lit (.bool false)], args := [d1, d2] }
  | _ => none }
def CodeRawWrongFalsely : Prop := codeRawRow.holds Try.pinned (OpenSpec.ofChange codeRawWrong)

/-- 'intagliolaw04.CodeBack': WHATEVER THE INPUT: true; the input reads as it did. -/
def codeBackSpec : ChangeSpec := { name := "codeBack", fn := fun _ => fun
  | [d] => { results := [.lit (.bool true)], args := [d] }
  | _ => none }
def codeBackRow : OpenClaim := { program := "ytoodfjpigminkaa", sum := "8d17b899a63e02afea31f2596e342872498e2adf25bc3e7c35db2952e3397cc9", func := "intaglio/intagliolaw04.CodeBack", spec := "codeBack", inPlace := ["internal/bytealg.IndexByteString"], unfollowed := true, recurses := true, apart := false }
def CodeBackSaid : Prop := codeBackRow.holds Try.pinned (OpenSpec.ofChange codeBackSpec)

/-- ITS FALSE NEIGHBOUR: 'it returns false'. Refute it at one input. -/
def codeBackWrong : ChangeSpec := { name := "codeBack", fn := fun _ => fun
  | [d] => { results := [.lit (.bool false)], args := [d] }
  | _ => none }
def CodeBackWrongFalsely : Prop := codeBackRow.holds Try.pinned (OpenSpec.ofChange codeBackWrong)

/-- 'intagliolaw04.CodeUnlike': WHATEVER THE INPUT: true; the input reads as it did. -/
def codeUnlikeSpec : ChangeSpec := { name := "codeUnlike", fn := fun _ => fun
  | [d1, d2] => { results := [.lit (.bool true)], args := [d1, d2] }
  | _ => none }
def codeUnlikeRow : OpenClaim := { program := "ytoodfjpigminkaa", sum := "8d17b899a63e02afea31f2596e342872498e2adf25bc3e7c35db2952e3397cc9", func := "intaglio/intagliolaw04.CodeUnlike", spec := "codeUnlike", inPlace := ["internal/bytealg.IndexByteString"], unfollowed := true, recurses := true, apart := false }
def CodeUnlikeSaid : Prop := codeUnlikeRow.holds Try.pinned (OpenSpec.ofChange codeUnlikeSpec)

/-- ITS FALSE NEIGHBOUR: 'it returns false'. Refute it at one input. -/
def codeUnlikeWrong : ChangeSpec := { name := "codeUnlike", fn := fun _ => fun
  | [d1, d2] => { results := [.lit (.bool false)], args := [d1, d2] }
  | _ => none }
def CodeUnlikeWrongFalsely : Prop := codeUnlikeRow.holds Try.pinned (OpenSpec.ofChange codeUnlikeWrong)

/-- 'intagliolaw04.CodeOne': WHATEVER THE INPUT: true; the input reads as it did. -/
def codeOneSpec : ChangeSpec := { name := "codeOne", fn := fun _ => fun
  | [d1, d2, d3] => { results := [.lit (.bool true)], args := [d1, d2, d3] }
  | _ => none }
def codeOneRow : OpenClaim := { program := "ytoodfjpigminkaa", sum := "8d17b899a63e02afea31f2596e342872498e2adf25bc3e7c35db2952e3397cc9", func := "intaglio/intagliolaw04.CodeOne", spec := "codeOne", inPlace := ["internal/bytealg.IndexByteString"], unfollowed := true, recurses := true, apart := false }
def CodeOneSaid : Prop := codeOneRow.holds Try.pinned (OpenSpec.ofChange codeOneSpec)

/-- ITS FALSE NEIGHBOUR: 'it returns false'. Refute it at one input. -/
def codeOneWrong : ChangeSpec := { name := "codeOne", fn := fun _ => fun
  | [d1, d2, d3] => { results := [.lit (.bool false)], args := [d1, d2, d3] }
  | _ => none }
def CodeOneWrongFalsely : Prop := codeOneRow.holds Try.pinned (OpenSpec.ofChange codeOneWrong)

/-- 'intagliolaw04.CodeWords': WHATEVER THE INPUT: true; the input reads as it did. -/
def codeWordsSpec : ChangeSpec := { name := "codeWords", fn := fun _ => fun
  | [d1, d2] => { results := [.lit (.bool true)], args := [d1, d2] }
  | _ => none }
def codeWordsRow : OpenClaim := { program := "ytoodfjpigminkaa", sum := "8d17b899a63e02afea31f2596e342872498e2adf25bc3e7c35db2952e3397cc9", func := "intaglio/intagliolaw04.CodeWords", spec := "codeWords", inPlace := ["internal/bytealg.IndexByteString"], unfollowed := true, recurses := true, apart := false }
def CodeWordsSaid : Prop := codeWordsRow.holds Try.pinned (OpenSpec.ofChange codeWordsSpec)

/-- ITS FALSE NEIGHBOUR: 'it returns false'. Refute it at one input. -/
def codeWordsWrong : ChangeSpec := { name := "codeWords", fn := fun _ => fun
  | [d1, d2] => { results := [.lit (.bool false)], args := [d1, d2] }
  | _ => none }
def CodeWordsWrongFalsely : Prop := codeWordsRow.holds Try.pinned (OpenSpec.ofChange codeWordsWrong)

/-- 'intagliolaw04.CodeIds': WHATEVER THE INPUT: true; the input reads as it did. -/
def codeIdsSpec : ChangeSpec := { name := "codeIds", fn := fun _ => fun
  | [d] => { results := [.lit (.bool true)], args := [d] }
  | _ => none }
def codeIdsRow : OpenClaim := { program := "ytoodfjpigminkaa", sum := "8d17b899a63e02afea31f2596e342872498e2adf25bc3e7c35db2952e3397cc9", func := "intaglio/intagliolaw04.CodeIds", spec := "codeIds", inPlace := ["internal/bytealg.IndexByteString"], unfollowed := true, recurses := true, apart := false }
def CodeIdsSaid : Prop := codeIdsRow.holds Try.pinned (OpenSpec.ofChange codeIdsSpec)

/-- ITS FALSE NEIGHBOUR: 'it returns false'. Refute it at one input. -/
def codeIdsWrong : ChangeSpec := { name := "codeIds", fn := fun _ => fun
  | [d] => { results := [.lit (.bool false)], args := [d] }
  | _ => none }
def CodeIdsWrongFalsely : Prop := codeIdsRow.holds Try.pinned (OpenSpec.ofChange codeIdsWrong)

/-- 'intagliolaw04.CodeForth': WHATEVER THE INPUT: true; the input reads as it did. -/
def codeForthSpec : ChangeSpec := { name := "codeForth", fn := fun _ => fun
  | [d] => { results := [.lit (.bool true)], args := [d] }
  | _ => none }
def codeForthRow : OpenClaim := { program := "ytoodfjpigminkaa", sum := "8d17b899a63e02afea31f2596e342872498e2adf25bc3e7c35db2952e3397cc9", func := "intaglio/intagliolaw04.CodeForth", spec := "codeForth", inPlace := ["internal/bytealg.IndexByteString"], unfollowed := true, recurses := true, apart := false }
def CodeForthSaid : Prop := codeForthRow.holds Try.pinned (OpenSpec.ofChange codeForthSpec)

/-- ITS FALSE NEIGHBOUR: 'it returns false'. Refute it at one input. -/
def codeForthWrong : ChangeSpec := { name := "codeForth", fn := fun _ => fun
  | [d] => { results := [.lit (.bool false)], args := [d] }
  | _ => none }
def CodeForthWrongFalsely : Prop := codeForthRow.holds Try.pinned (OpenSpec.ofChange codeForthWrong)

/- THE SECOND FORM. 'bulk': how many values and letters a reading holds, each counted each time it is reached (what is shared counts as often as it is met; a slice's spare places count too). A statement '..UptoSaid' is the law's where the arguments, and the package variables that the reading takes, are together of bulk at most 1048576: NARROWER than '..Said'. Prove '..Said' where nothing that the law and all that it calls make is longer than what came in: it says more and counts as full. Else prove '..UptoSaid'. A law counts once. -/
mutual
def uptoBulk {H : Type} : DataW H → Nat
  | .lit (.string bytes) => bytes.length + 1
  | .lit _ => 1
  | .nil => 1
  | .ptr d => uptoBulk d + 1
  | .slice elems spare => uptoBulkAll elems + uptoBulkAll spare + 1
  | .agg parts => uptoBulkAll parts + 1
  | .iface _ d => uptoBulk d + 1
  | .map entries => uptoBulkEntries entries + 1
  | .held _ => 1
def uptoBulkAll {H : Type} : List (DataW H) → Nat
  | [] => 0
  | d :: r => uptoBulk d + uptoBulkAll r
def uptoBulkEntries {H : Type} : List (Lit × DataW H) → Nat
  | [] => 0
  | x :: r => uptoBulkEntry x + uptoBulkEntries r
def uptoBulkEntry {H : Type} : Lit × DataW H → Nat
  | (.string bytes, d) => bytes.length + uptoBulk d + 1
  | (_, d) => uptoBulk d + 1
 end
def uptoSmall : (H : Type) → List (DataW H) → Bool := fun _ ds => decide (uptoBulkAll ds ≤ 1048576)
def OpenSpec.upto (s : _root_.Go.ChangeSpec) : _root_.Go.OpenSpec := { _root_.Go.OpenSpec.ofChange s with cond := some uptoSmall }

/-- 'intagliolaw04.CodeDecodes', WHERE WHAT IT READS IS OF BULK AT MOST 1048576: true; the input reads as it did. -/
def codeDecodesUptoRow : OpenClaim := { program := "ytoodfjpigminkaa", sum := "8d17b899a63e02afea31f2596e342872498e2adf25bc3e7c35db2952e3397cc9", func := "intaglio/intagliolaw04.CodeDecodes", spec := "codeDecodes", inPlace := ["internal/bytealg.IndexByteString"], unfollowed := true, recurses := true, apart := false, narrowed := true }
def CodeDecodesUptoSaid : Prop := codeDecodesUptoRow.holds Try.pinned (OpenSpec.upto codeDecodesSpec)

/-- 'intagliolaw04.CodeEncodes', WHERE WHAT IT READS IS OF BULK AT MOST 1048576: true; the input reads as it did. -/
def codeEncodesUptoRow : OpenClaim := { program := "ytoodfjpigminkaa", sum := "8d17b899a63e02afea31f2596e342872498e2adf25bc3e7c35db2952e3397cc9", func := "intaglio/intagliolaw04.CodeEncodes", spec := "codeEncodes", inPlace := ["internal/bytealg.IndexByteString"], unfollowed := true, recurses := true, apart := false, narrowed := true }
def CodeEncodesUptoSaid : Prop := codeEncodesUptoRow.holds Try.pinned (OpenSpec.upto codeEncodesSpec)

/-- 'intagliolaw04.CodeInst', WHERE WHAT IT READS IS OF BULK AT MOST 1048576: true; the input reads as it did. -/
def codeInstUptoRow : OpenClaim := { program := "ytoodfjpigminkaa", sum := "8d17b899a63e02afea31f2596e342872498e2adf25bc3e7c35db2952e3397cc9", func := "intaglio/intagliolaw04.CodeInst", spec := "codeInst", inPlace := ["internal/bytealg.IndexByteString"], unfollowed := true, recurses := true, apart := false, narrowed := true }
def CodeInstUptoSaid : Prop := codeInstUptoRow.holds Try.pinned (OpenSpec.upto codeInstSpec)

/-- 'intagliolaw04.CodeRaw', WHERE WHAT IT READS IS OF BULK AT MOST 1048576: true; the input reads as it did. -/
def codeRawUptoRow : OpenClaim := { program := "ytoodfjpigminkaa", sum := "8d17b899a63e02afea31f2596e342872498e2adf25bc3e7c35db2952e3397cc9", func := "intaglio/intagliolaw04.CodeRaw", spec := "codeRaw", inPlace := ["internal/bytealg.IndexByteString"], unfollowed := true, recurses := true, apart := false, narrowed := true }
def CodeRawUptoSaid : Prop := codeRawUptoRow.holds Try.pinned (OpenSpec.upto codeRawSpec)

/-- 'intagliolaw04.CodeBack', WHERE WHAT IT READS IS OF BULK AT MOST 1048576: true; the input reads as it did. -/
def codeBackUptoRow : OpenClaim := { program := "ytoodfjpigminkaa", sum := "8d17b899a63e02afea31f2596e342872498e2adf25bc3e7c35db2952e3397cc9", func := "intaglio/intagliolaw04.CodeBack", spec := "codeBack", inPlace := ["internal/bytealg.IndexByteString"], unfollowed := true, recurses := true, apart := false, narrowed := true }
def CodeBackUptoSaid : Prop := codeBackUptoRow.holds Try.pinned (OpenSpec.upto codeBackSpec)

/-- 'intagliolaw04.CodeUnlike', WHERE WHAT IT READS IS OF BULK AT MOST 1048576: true; the input reads as it did. -/
def codeUnlikeUptoRow : OpenClaim := { program := "ytoodfjpigminkaa", sum := "8d17b899a63e02afea31f2596e342872498e2adf25bc3e7c35db2952e3397cc9", func := "intaglio/intagliolaw04.CodeUnlike", spec := "codeUnlike", inPlace := ["internal/bytealg.IndexByteString"], unfollowed := true, recurses := true, apart := false, narrowed := true }
def CodeUnlikeUptoSaid : Prop := codeUnlikeUptoRow.holds Try.pinned (OpenSpec.upto codeUnlikeSpec)

/-- 'intagliolaw04.CodeOne', WHERE WHAT IT READS IS OF BULK AT MOST 1048576: true; the input reads as it did. -/
def codeOneUptoRow : OpenClaim := { program := "ytoodfjpigminkaa", sum := "8d17b899a63e02afea31f2596e342872498e2adf25bc3e7c35db2952e3397cc9", func := "intaglio/intagliolaw04.CodeOne", spec := "codeOne", inPlace := ["internal/bytealg.IndexByteString"], unfollowed := true, recurses := true, apart := false, narrowed := true }
def CodeOneUptoSaid : Prop := codeOneUptoRow.holds Try.pinned (OpenSpec.upto codeOneSpec)

/-- 'intagliolaw04.CodeWords', WHERE WHAT IT READS IS OF BULK AT MOST 1048576: true; the input reads as it did. -/
def codeWordsUptoRow : OpenClaim := { program := "ytoodfjpigminkaa", sum := "8d17b899a63e02afea31f2596e342872498e2adf25bc3e7c35db2952e3397cc9", func := "intaglio/intagliolaw04.CodeWords", spec := "codeWords", inPlace := ["internal/bytealg.IndexByteString"], unfollowed := true, recurses := true, apart := false, narrowed := true }
def CodeWordsUptoSaid : Prop := codeWordsUptoRow.holds Try.pinned (OpenSpec.upto codeWordsSpec)

/-- 'intagliolaw04.CodeIds', WHERE WHAT IT READS IS OF BULK AT MOST 1048576: true; the input reads as it did. -/
def codeIdsUptoRow : OpenClaim := { program := "ytoodfjpigminkaa", sum := "8d17b899a63e02afea31f2596e342872498e2adf25bc3e7c35db2952e3397cc9", func := "intaglio/intagliolaw04.CodeIds", spec := "codeIds", inPlace := ["internal/bytealg.IndexByteString"], unfollowed := true, recurses := true, apart := false, narrowed := true }
def CodeIdsUptoSaid : Prop := codeIdsUptoRow.holds Try.pinned (OpenSpec.upto codeIdsSpec)

/-- 'intagliolaw04.CodeForth', WHERE WHAT IT READS IS OF BULK AT MOST 1048576: true; the input reads as it did. -/
def codeForthUptoRow : OpenClaim := { program := "ytoodfjpigminkaa", sum := "8d17b899a63e02afea31f2596e342872498e2adf25bc3e7c35db2952e3397cc9", func := "intaglio/intagliolaw04.CodeForth", spec := "codeForth", inPlace := ["internal/bytealg.IndexByteString"], unfollowed := true, recurses := true, apart := false, narrowed := true }
def CodeForthUptoSaid : Prop := codeForthUptoRow.holds Try.pinned (OpenSpec.upto codeForthSpec)

end Rows
end Go.Proofs.Ytoodfjpigminkaa
