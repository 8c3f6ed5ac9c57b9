/-
  No cell of these rows narrows 'for every input' (looked for: loops, veiled, ifaces, maps, wideKeys, modest, calm, conditions, laid).
  DERIVED. THE GIVEN ROWS OF THIS SEAT. 6 by the template 'for every input the law returns true; each argument reads behind the call as it read before'; 0 by the template 'total and deterministic' (their statements: YtbjkagmkphmefaaTotals.lean).
  GIVEN WITH THE SEED: the statements are not yours to turn. If you find one false, say at which input.
  Laid BY PROGRAM, IN A SANDBOX (cutbox-rows.mjs): the forced cells as the released guide's own fill.sh prints them over the translation 71de1a6e7440dc8e… (all of the seat's roots in one cut). By AI agents, Wed Nov 11 2026. No macro, syntax, notation, axiom, sorry.
-/
import Derived.Test.YtbjkagmkphmefaaChecked
import GoSem.Claim
import GoSem.ClaimJoined
import GoSem.ClaimMapViews
import Derived.JoinedTies
import Derived.KernelRfl
namespace Go.Proofs.Ytbjkagmkphmefaa
/- THE CELL 'sum', in the pinned program and in every row, IS THE sha256 OF THE DUMP (.gsa) THAT YtbjkagmkphmefaaProg.lean LOADS. Nothing in Lean hashes anything: it is a label: what it is worth is what the hold of that sum in a sandbox is worth. -/
noncomputable def Try.pinned : Pinned := { name := "ytbjkagmkphmefaa", sum := "71de1a6e7440dc8eace89a091e023b0d6311580186cb0c597a7c47b45085ffcd", checked := Try.checked }
namespace Rows
def none {H : Type} : Left H := { results := [], args := [] }

/-- 'intagliolaw05.LayoutChecks': WHATEVER THE INPUT: true; the input reads as it did. -/
def layoutChecksSpec : ChangeSpec := { name := "layoutChecks", fn := fun _ => fun
  | [d] => { results := [.lit (.bool true)], args := [d] }
  | _ => none }
def layoutChecksRow : OpenClaim := { program := "ytbjkagmkphmefaa", sum := "71de1a6e7440dc8eace89a091e023b0d6311580186cb0c597a7c47b45085ffcd", func := "intaglio/intagliolaw05.LayoutChecks", spec := "layoutChecks", inPlace := ["internal/bytealg.IndexByteString"], unfollowed := true, recurses := true, apart := false }
def LayoutChecksSaid : Prop := layoutChecksRow.holds Try.pinned (OpenSpec.ofChange layoutChecksSpec)

/-- ITS FALSE NEIGHBOUR: 'it returns false'. Refute it at one input. -/
def layoutChecksWrong : ChangeSpec := { name := "layoutChecks", fn := fun _ => fun
  | [d] => { results := [.lit (.bool false)], args := [d] }
  | _ => none }
def LayoutChecksWrongFalsely : Prop := layoutChecksRow.holds Try.pinned (OpenSpec.ofChange layoutChecksWrong)

/-- 'intagliolaw05.LayoutBegins': WHATEVER THE INPUT: true; the input reads as it did. -/
def layoutBeginsSpec : ChangeSpec := { name := "layoutBegins", fn := fun _ => fun
  | [d] => { results := [.lit (.bool true)], args := [d] }
  | _ => none }
def layoutBeginsRow : OpenClaim := { program := "ytbjkagmkphmefaa", sum := "71de1a6e7440dc8eace89a091e023b0d6311580186cb0c597a7c47b45085ffcd", func := "intaglio/intagliolaw05.LayoutBegins", spec := "layoutBegins", inPlace := ["internal/bytealg.IndexByteString"], unfollowed := true, recurses := true, apart := false }
def LayoutBeginsSaid : Prop := layoutBeginsRow.holds Try.pinned (OpenSpec.ofChange layoutBeginsSpec)

/-- ITS FALSE NEIGHBOUR: 'it returns false'. Refute it at one input. -/
def layoutBeginsWrong : ChangeSpec := { name := "layoutBegins", fn := fun _ => fun
  | [d] => { results := [.lit (.bool false)], args := [d] }
  | _ => none }
def LayoutBeginsWrongFalsely : Prop := layoutBeginsRow.holds Try.pinned (OpenSpec.ofChange layoutBeginsWrong)

/-- 'intagliolaw05.LayoutParts': WHATEVER THE INPUT: true; the input reads as it did. -/
def layoutPartsSpec : ChangeSpec := { name := "layoutParts", fn := fun _ => fun
  | [d] => { results := [.lit (.bool true)], args := [d] }
  | _ => none }
def layoutPartsRow : OpenClaim := { program := "ytbjkagmkphmefaa", sum := "71de1a6e7440dc8eace89a091e023b0d6311580186cb0c597a7c47b45085ffcd", func := "intaglio/intagliolaw05.LayoutParts", spec := "layoutParts", inPlace := ["internal/bytealg.IndexByteString"], unfollowed := true, recurses := true, apart := false }
def LayoutPartsSaid : Prop := layoutPartsRow.holds Try.pinned (OpenSpec.ofChange layoutPartsSpec)

/-- ITS FALSE NEIGHBOUR: 'it returns false'. Refute it at one input. -/
def layoutPartsWrong : ChangeSpec := { name := "layoutParts", fn := fun _ => fun
  | [d] => { results := [.lit (.bool false)], args := [d] }
  | _ => none }
def LayoutPartsWrongFalsely : Prop := layoutPartsRow.holds Try.pinned (OpenSpec.ofChange layoutPartsWrong)

/-- 'intagliolaw05.LayoutCuts': WHATEVER THE INPUT: true; the input reads as it did. -/
def layoutCutsSpec : ChangeSpec := { name := "layoutCuts", fn := fun _ => fun
  | [d] => { results := [.lit (.bool true)], args := [d] }
  | _ => none }
def layoutCutsRow : OpenClaim := { program := "ytbjkagmkphmefaa", sum := "71de1a6e7440dc8eace89a091e023b0d6311580186cb0c597a7c47b45085ffcd", func := "intaglio/intagliolaw05.LayoutCuts", spec := "layoutCuts", inPlace := ["internal/bytealg.IndexByteString"], unfollowed := true, recurses := true, apart := false }
def LayoutCutsSaid : Prop := layoutCutsRow.holds Try.pinned (OpenSpec.ofChange layoutCutsSpec)

/-- ITS FALSE NEIGHBOUR: 'it returns false'. Refute it at one input. -/
def layoutCutsWrong : ChangeSpec := { name := "layoutCuts", fn := fun _ => fun
  | [d] => { results := [.lit (.bool false)], args := [d] }
  | _ => none }
def LayoutCutsWrongFalsely : Prop := layoutCutsRow.holds Try.pinned (OpenSpec.ofChange layoutCutsWrong)

/-- 'intagliolaw05.LayoutWhole': WHATEVER THE INPUT: true; the input reads as it did. -/
def layoutWholeSpec : ChangeSpec := { name := "layoutWhole", fn := fun _ => fun
  | [d] => { results := [.lit (.bool true)], args := [d] }
  | _ => none }
def layoutWholeRow : OpenClaim := { program := "ytbjkagmkphmefaa", sum := "71de1a6e7440dc8eace89a091e023b0d6311580186cb0c597a7c47b45085ffcd", func := "intaglio/intagliolaw05.LayoutWhole", spec := "layoutWhole", inPlace := ["internal/bytealg.IndexByteString"], unfollowed := true, recurses := true, apart := false }
def LayoutWholeSaid : Prop := layoutWholeRow.holds Try.pinned (OpenSpec.ofChange layoutWholeSpec)

/-- ITS FALSE NEIGHBOUR: 'it returns false'. Refute it at one input. -/
def layoutWholeWrong : ChangeSpec := { name := "layoutWhole", fn := fun _ => fun
  | [d] => { results := [.lit (.bool false)], args := [d] }
  | _ => none }
def LayoutWholeWrongFalsely : Prop := layoutWholeRow.holds Try.pinned (OpenSpec.ofChange layoutWholeWrong)

/-- 'intagliolaw05.LayoutOwns': WHATEVER THE INPUT: true; the input reads as it did. -/
def layoutOwnsSpec : ChangeSpec := { name := "layoutOwns", fn := fun _ => fun
  | [d1, d2] => { results := [.lit (.bool true)], args := [d1, d2] }
  | _ => none }
def layoutOwnsRow : OpenClaim := { program := "ytbjkagmkphmefaa", sum := "71de1a6e7440dc8eace89a091e023b0d6311580186cb0c597a7c47b45085ffcd", func := "intaglio/intagliolaw05.LayoutOwns", spec := "layoutOwns", inPlace := ["internal/bytealg.IndexByteString"], unfollowed := true, recurses := true, apart := false }
def LayoutOwnsSaid : Prop := layoutOwnsRow.holds Try.pinned (OpenSpec.ofChange layoutOwnsSpec)

/-- ITS FALSE NEIGHBOUR: 'it returns false'. Refute it at one input. -/
def layoutOwnsWrong : ChangeSpec := { name := "layoutOwns", fn := fun _ => fun
  | [d1, d2] => { results := [.lit (.bool false)], args := [d1, d2] }
  | _ => none }
def LayoutOwnsWrongFalsely : Prop := layoutOwnsRow.holds Try.pinned (OpenSpec.ofChange layoutOwnsWrong)

/- THE SECOND FORM. 'bulk': how many values and letters a reading holds, each counted each time it is reached (what is shared counts as often as it is met; a slice's spare places count too). A statement '..UptoSaid' is the law's where the arguments, and the package variables that the reading takes, are together of bulk at most 1048576: NARROWER than '..Said'. Prove '..Said' where nothing that the law and all that it calls make is longer than what came in: it says more and counts as full. Else prove '..UptoSaid'. A law counts once. -/
mutual
def uptoBulk {H : Type} : DataW H → Nat
  | .lit (.string bytes) => bytes.length + 1
  | .lit _ => 1
  | .nil => 1
  | .ptr d => uptoBulk d + 1
  | .slice elems spare => uptoBulkAll elems + uptoBulkAll spare + 1
  | .agg parts => uptoBulkAll parts + 1
  | .iface _ d => uptoBulk d + 1
  | .map entries => uptoBulkEntries entries + 1
  | .held _ => 1
def uptoBulkAll {H : Type} : List (DataW H) → Nat
  | [] => 0
  | d :: r => uptoBulk d + uptoBulkAll r
def uptoBulkEntries {H : Type} : List (Lit × DataW H) → Nat
  | [] => 0
  | x :: r => uptoBulkEntry x + uptoBulkEntries r
def uptoBulkEntry {H : Type} : Lit × DataW H → Nat
  | (.string bytes, d) => bytes.length + uptoBulk d + 1
  | (_, d) => uptoBulk d + 1
 end
def uptoSmall : (H : Type) → List (DataW H) → Bool := fun _ ds => decide (uptoBulkAll ds ≤ 1048576)
def OpenSpec.upto (s : _root_.Go.ChangeSpec) : _root_.Go.OpenSpec := { _root_.Go.OpenSpec.ofChange s with cond := some uptoSmall }

/-- 'intagliolaw05.LayoutChecks', WHERE WHAT IT READS IS OF BULK AT MOST 1048576: true; the input reads as it did. -/
def layoutChecksUptoRow : OpenClaim := { program := "ytbjkagmkphmefaa", sum := "71de1a6e7440dc8eace89a091e023b0d6311580186cb0c597a7c47b45085ffcd", func := "intaglio/intagliolaw05.LayoutChecks", spec := "layoutChecks", inPlace := ["internal/bytealg.IndexByteString"], unfollowed := true, recurses := true, apart := false, narrowed := true }
def LayoutChecksUptoSaid : Prop := layoutChecksUptoRow.holds Try.pinned (OpenSpec.upto layoutChecksSpec)

/-- 'intagliolaw05.LayoutBegins', WHERE WHAT IT READS IS OF BULK AT MOST 1048576: true; the input reads as it did. -/
def layoutBeginsUptoRow : OpenClaim := { program := "ytbjkagmkphmefaa", sum := "71de1a6e7440dc8eace89a091e023b0d6311580186cb0c597a7c47b45085ffcd", func := "intaglio/intagliolaw05.LayoutBegins", spec := "layoutBegins", inPlace := ["internal/bytealg.IndexByteString"], unfollowed := true, recurses := true, apart := false, narrowed := true }
def LayoutBeginsUptoSaid : Prop := layoutBeginsUptoRow.holds Try.pinned (OpenSpec.upto layoutBeginsSpec)

/-- 'intagliolaw05.LayoutParts', WHERE WHAT IT READS IS OF BULK AT MOST 1048576: true; the input reads as it did. -/
def layoutPartsUptoRow : OpenClaim := { program := "ytbjkagmkphmefaa", sum := "71de1a6e7440dc8eace89a091e023b0d6311580186cb0c597a7c47b45085ffcd", func := "intaglio/intagliolaw05.LayoutParts", spec := "layoutParts", inPlace := ["internal/bytealg.IndexByteString"], unfollowed := true, recurses := true, apart := false, narrowed := true }
def LayoutPartsUptoSaid : Prop := layoutPartsUptoRow.holds Try.pinned (OpenSpec.upto layoutPartsSpec)

/-- 'intagliolaw05.LayoutCuts', WHERE WHAT IT READS IS OF BULK AT MOST 1048576: true; the input reads as it did. -/
def layoutCutsUptoRow : OpenClaim := { program := "ytbjkagmkphmefaa", sum := "71de1a6e7440dc8eace89a091e023b0d6311580186cb0c597a7c47b45085ffcd", func := "intaglio/intagliolaw05.LayoutCuts", spec := "layoutCuts", inPlace := ["internal/bytealg.IndexByteString"], unfollowed := true, recurses := true, apart := false, narrowed := true }
def LayoutCutsUptoSaid : Prop := layoutCutsUptoRow.holds Try.pinned (OpenSpec.upto layoutCutsSpec)

/-- 'intagliolaw05.LayoutWhole', WHERE WHAT IT READS IS OF BULK AT MOST 1048576: true; the input reads as it did. -/
def layoutWholeUptoRow : OpenClaim := { program := "ytbjkagmkphmefaa", sum := "71de1a6e7440dc8eace89a091e023b0d6311580186cb0c597a7c47b45085ffcd", func := "intaglio/intagliolaw05.LayoutWhole", spec := "layoutWhole", inPlace := ["internal/bytealg.IndexByteString"], unfollowed := true, recurses := true, apart := false, narrowed := true }
def LayoutWholeUptoSaid : Prop := layoutWholeUptoRow.holds Try.pinned (OpenSpec.upto layoutWholeSpec)

/-- 'intagliolaw05.LayoutOwns', WHERE WHAT IT READS IS OF BULK AT MOST 1048576: true; the input reads as it did. -/
def layoutOwnsUptoRow : OpenClaim := { program := "ytbjkagmkphmefaa", sum := "71de1a6e7440dc8eace89a091e023b0d6311580186cb0c597a7c47b45085ffcd", func := "intaglio/intagliolaw05.LayoutOwns", spec := "layoutOwns", inPlace := ["internal/bytealg.IndexByteString"], unfollowed := true, recurses := true, apart := false, narrowed := true }
def LayoutOwnsUptoSaid : Prop := layoutOwnsUptoRow.holds Try.pinned (OpenSpec.upto layoutOwnsSpec)

end Rows
end Go.Proofs.Ytbjkagmkphmefaa
