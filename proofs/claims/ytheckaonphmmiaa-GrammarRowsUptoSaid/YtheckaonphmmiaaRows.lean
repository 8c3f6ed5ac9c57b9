/-
  No cell of these rows narrows 'for every input' (looked for: loops, veiled, ifaces, maps, wideKeys, modest, calm, conditions, laid).
  DERIVED. THE GIVEN ROWS OF THIS SEAT. 9 by the template 'for every input the law returns true; each argument reads behind the call as it read before'; 0 by the template 'total and deterministic' (their statements: YtheckaonphmmiaaTotals.lean).
  GIVEN WITH THE SEED: the statements are not yours to turn. If you find one false, say at which input.
  Laid BY PROGRAM, IN A SANDBOX (cutbox-rows.mjs): the forced cells as the released guide's own fill.sh prints them over the translation 28c66a385d94e227… (all of the seat's roots in one cut). By AI agents, Wed Nov 11 2026. No macro, syntax, notation, axiom, sorry.
-/
import Derived.Test.YtheckaonphmmiaaChecked
import GoSem.Claim
import GoSem.ClaimJoined
import GoSem.ClaimMapViews
import Derived.JoinedTies
import Derived.KernelRfl
namespace Go.Proofs.Ytheckaonphmmiaa
/- THE CELL 'sum', in the pinned program and in every row, IS THE sha256 OF THE DUMP (.gsa) THAT YtheckaonphmmiaaProg.lean LOADS. Nothing in Lean hashes anything: it is a label: what it is worth is what the hold of that sum in a sandbox is worth. -/
noncomputable def Try.pinned : Pinned := { name := "ytheckaonphmmiaa", sum := "28c66a385d94e22781274ca77c942160e90ec15937fa430f7172811ab2bc83b0", checked := Try.checked }
namespace Rows
def none {H : Type} : Left H := { results := [], args := [] }

/-- 'intagliolaw03.GrammarEnumsAll': WHATEVER THE INPUT: true; the input reads as it did. -/
def grammarEnumsAllSpec : ChangeSpec := { name := "grammarEnumsAll", fn := fun _ => fun
  | [d] => { results := [.lit (.bool true)], args := [d] }
  | _ => none }
def grammarEnumsAllRow : OpenClaim := { program := "ytheckaonphmmiaa", sum := "28c66a385d94e22781274ca77c942160e90ec15937fa430f7172811ab2bc83b0", func := "intaglio/intagliolaw03.GrammarEnumsAll", spec := "grammarEnumsAll", unfollowed := true, recurses := true, apart := false }
def GrammarEnumsAllSaid : Prop := grammarEnumsAllRow.holds Try.pinned (OpenSpec.ofChange grammarEnumsAllSpec)

/-- ITS FALSE NEIGHBOUR: 'it returns false'. Refute it at one input. -/
def grammarEnumsAllWrong : ChangeSpec := { name := "grammarEnumsAll", fn := fun _ => fun
  | [d] => { results := [.lit (.bool false)], args := [d] }
  | _ => none }
def GrammarEnumsAllWrongFalsely : Prop := grammarEnumsAllRow.holds Try.pinned (OpenSpec.ofChange grammarEnumsAllWrong)

/-- 'intagliolaw03.GrammarEnums': WHATEVER THE INPUT: true; the input reads as it did. -/
def grammarEnumsSpec : ChangeSpec := { name := "grammarEnums", fn := fun _ => fun
  | [d1, d2, d3] => { results := [.lit (.bool true)], args := [d1, d2, d3] }
  | _ => none }
def grammarEnumsRow : OpenClaim := { program := "ytheckaonphmmiaa", sum := "28c66a385d94e22781274ca77c942160e90ec15937fa430f7172811ab2bc83b0", func := "intaglio/intagliolaw03.GrammarEnums", spec := "grammarEnums", unfollowed := true, recurses := true, apart := false }
def GrammarEnumsSaid : Prop := grammarEnumsRow.holds Try.pinned (OpenSpec.ofChange grammarEnumsSpec)

/-- ITS FALSE NEIGHBOUR: 'it returns false'. Refute it at one input. -/
def grammarEnumsWrong : ChangeSpec := { name := "grammarEnums", fn := fun _ => fun
  | [d1, d2, d3] => { results := [.lit (.bool false)], args := [d1, d2, d3] }
  | _ => none }
def GrammarEnumsWrongFalsely : Prop := grammarEnumsRow.holds Try.pinned (OpenSpec.ofChange grammarEnumsWrong)

/-- 'intagliolaw03.GrammarForms': WHATEVER THE INPUT: true; the input reads as it did. -/
def grammarFormsSpec : ChangeSpec := { name := "grammarForms", fn := fun _ => fun
  | [d] => { results := [.lit (.bool true)], args := [d] }
  | _ => none }
def grammarFormsRow : OpenClaim := { program := "ytheckaonphmmiaa", sum := "28c66a385d94e22781274ca77c942160e90ec15937fa430f7172811ab2bc83b0", func := "intaglio/intagliolaw03.GrammarForms", spec := "grammarForms", apart := false }
def GrammarFormsSaid : Prop := grammarFormsRow.holds Try.pinned (OpenSpec.ofChange grammarFormsSpec)

/-- ITS FALSE NEIGHBOUR: 'it returns false'. Refute it at one input. -/
def grammarFormsWrong : ChangeSpec := { name := "grammarForms", fn := fun _ => fun
  | [d] => { results := [.lit (.bool false)], args := [d] }
  | _ => none }
def GrammarFormsWrongFalsely : Prop := grammarFormsRow.holds Try.pinned (OpenSpec.ofChange grammarFormsWrong)

/-- 'intagliolaw03.GrammarAll': WHATEVER THE INPUT: true; the input reads as it did. -/
def grammarAllSpec : ChangeSpec := { name := "grammarAll", fn := fun _ => fun
  | [d] => { results := [.lit (.bool true)], args := [d] }
  | _ => none }
def grammarAllRow : OpenClaim := { program := "ytheckaonphmmiaa", sum := "28c66a385d94e22781274ca77c942160e90ec15937fa430f7172811ab2bc83b0", func := "intaglio/intagliolaw03.GrammarAll", spec := "grammarAll", unfollowed := true, recurses := true, apart := false }
def GrammarAllSaid : Prop := grammarAllRow.holds Try.pinned (OpenSpec.ofChange grammarAllSpec)

/-- ITS FALSE NEIGHBOUR: 'it returns false'. Refute it at one input. -/
def grammarAllWrong : ChangeSpec := { name := "grammarAll", fn := fun _ => fun
  | [d] => { results := [.lit (.bool false)], args := [d] }
  | _ => none }
def GrammarAllWrongFalsely : Prop := grammarAllRow.holds Try.pinned (OpenSpec.ofChange grammarAllWrong)

/-- 'intagliolaw03.GrammarNamed': WHATEVER THE INPUT: true; the input reads as it did. -/
def grammarNamedSpec : ChangeSpec := { name := "grammarNamed", fn := fun _ => fun
  | [d] => { results := [.lit (.bool true)], args := [d] }
  | _ => none }
def grammarNamedRow : OpenClaim := { program := "ytheckaonphmmiaa", sum := "28c66a385d94e22781274ca77c942160e90ec15937fa430f7172811ab2bc83b0", func := "intaglio/intagliolaw03.GrammarNamed", spec := "grammarNamed", unfollowed := true, recurses := true, apart := false }
def GrammarNamedSaid : Prop := grammarNamedRow.holds Try.pinned (OpenSpec.ofChange grammarNamedSpec)

/-- ITS FALSE NEIGHBOUR: 'it returns false'. Refute it at one input. -/
def grammarNamedWrong : ChangeSpec := { name := "grammarNamed", fn := fun _ => fun
  | [d] => { results := [.lit (.bool false)], args := [d] }
  | _ => none }
def GrammarNamedWrongFalsely : Prop := grammarNamedRow.holds Try.pinned (OpenSpec.ofChange grammarNamedWrong)

/-- 'intagliolaw03.GrammarLetters': WHATEVER THE INPUT: true; the input reads as it did. -/
def grammarLettersSpec : ChangeSpec := { name := "grammarLetters", fn := fun _ => fun
  | [d1, d2, d3] => { results := [.lit (.bool true)], args := [d1, d2, d3] }
  | _ => none }
def grammarLettersRow : OpenClaim := { program := "ytheckaonphmmiaa", sum := "28c66a385d94e22781274ca77c942160e90ec15937fa430f7172811ab2bc83b0", func := "intaglio/intagliolaw03.GrammarLetters", spec := "grammarLetters", unfollowed := true, recurses := true, apart := false }
def GrammarLettersSaid : Prop := grammarLettersRow.holds Try.pinned (OpenSpec.ofChange grammarLettersSpec)

/-- ITS FALSE NEIGHBOUR: 'it returns false'. Refute it at one input. -/
def grammarLettersWrong : ChangeSpec := { name := "grammarLetters", fn := fun _ => fun
  | [d1, d2, d3] => { results := [.lit (.bool false)], args := [d1, d2, d3] }
  | _ => none }
def GrammarLettersWrongFalsely : Prop := grammarLettersRow.holds Try.pinned (OpenSpec.ofChange grammarLettersWrong)

/-- 'intagliolaw03.GrammarFits': WHATEVER THE INPUT: true; the input reads as it did. -/
def grammarFitsSpec : ChangeSpec := { name := "grammarFits", fn := fun _ => fun
  | [d1, d2] => { results := [.lit (.bool true)], args := [d1, d2] }
  | _ => none }
def grammarFitsRow : OpenClaim := { program := "ytheckaonphmmiaa", sum := "28c66a385d94e22781274ca77c942160e90ec15937fa430f7172811ab2bc83b0", func := "intaglio/intagliolaw03.GrammarFits", spec := "grammarFits", unfollowed := true, recurses := true, apart := false }
def GrammarFitsSaid : Prop := grammarFitsRow.holds Try.pinned (OpenSpec.ofChange grammarFitsSpec)

/-- ITS FALSE NEIGHBOUR: 'it returns false'. Refute it at one input. -/
def grammarFitsWrong : ChangeSpec := { name := "grammarFits", fn := fun _ => fun
  | [d1, d2] => { results := [.lit (.bool false)], args := [d1, d2] }
  | _ => none }
def GrammarFitsWrongFalsely : Prop := grammarFitsRow.holds Try.pinned (OpenSpec.ofChange grammarFitsWrong)

/-- 'intagliolaw03.GrammarRows': WHATEVER THE INPUT: true; the input reads as it did. -/
def grammarRowsSpec : ChangeSpec := { name := "grammarRows", fn := fun _ => fun
  | [d1, d2, d3] => { results := [.lit (.bool true)], args := [d1, d2, d3] }
  | _ => none }
def grammarRowsRow : OpenClaim := { program := "ytheckaonphmmiaa", sum := "28c66a385d94e22781274ca77c942160e90ec15937fa430f7172811ab2bc83b0", func := "intaglio/intagliolaw03.GrammarRows", spec := "grammarRows", unfollowed := true, recurses := true, apart := false }
def GrammarRowsSaid : Prop := grammarRowsRow.holds Try.pinned (OpenSpec.ofChange grammarRowsSpec)

/-- ITS FALSE NEIGHBOUR: 'it returns false'. Refute it at one input. -/
def grammarRowsWrong : ChangeSpec := { name := "grammarRows", fn := fun _ => fun
  | [d1, d2, d3] => { results := [.lit (.bool false)], args := [d1, d2, d3] }
  | _ => none }
def GrammarRowsWrongFalsely : Prop := grammarRowsRow.holds Try.pinned (OpenSpec.ofChange grammarRowsWrong)

/-- 'intagliolaw03.GrammarBack': WHATEVER THE INPUT: true; the input reads as it did. -/
def grammarBackSpec : ChangeSpec := { name := "grammarBack", fn := fun _ => fun
  | [d1, d2, d3] => { results := [.lit (.bool true)], args := [d1, d2, d3] }
  | _ => none }
def grammarBackRow : OpenClaim := { program := "ytheckaonphmmiaa", sum := "28c66a385d94e22781274ca77c942160e90ec15937fa430f7172811ab2bc83b0", func := "intaglio/intagliolaw03.GrammarBack", spec := "grammarBack", unfollowed := true, recurses := true, apart := false }
def GrammarBackSaid : Prop := grammarBackRow.holds Try.pinned (OpenSpec.ofChange grammarBackSpec)

/-- ITS FALSE NEIGHBOUR: 'it returns false'. Refute it at one input. -/
def grammarBackWrong : ChangeSpec := { name := "grammarBack", fn := fun _ => fun
  | [d1, d2, d3] => { results := [.lit (.bool false)], args := [d1, d2, d3] }
  | _ => none }
def GrammarBackWrongFalsely : Prop := grammarBackRow.holds Try.pinned (OpenSpec.ofChange grammarBackWrong)

/- THE SECOND FORM. 'bulk': how many values and letters a reading holds, each counted each time it is reached (what is shared counts as often as it is met; a slice's spare places count too). A statement '..UptoSaid' is the law's where the arguments, and the package variables that the reading takes, are together of bulk at most 1048576: NARROWER than '..Said'. Prove '..Said' where nothing that the law and all that it calls make is longer than what came in: it says more and counts as full. Else prove '..UptoSaid'. A law counts once. -/
mutual
def uptoBulk {H : Type} : DataW H → Nat
  | .lit (.string bytes) => bytes.length + 1
  | .lit _ => 1
  | .nil => 1
  | .ptr d => uptoBulk d + 1
  | .slice elems spare => uptoBulkAll elems + uptoBulkAll spare + 1
  | .agg parts => uptoBulkAll parts + 1
  | .iface _ d => uptoBulk d + 1
  | .map entries => uptoBulkEntries entries + 1
  | .held _ => 1
def uptoBulkAll {H : Type} : List (DataW H) → Nat
  | [] => 0
  | d :: r => uptoBulk d + uptoBulkAll r
def uptoBulkEntries {H : Type} : List (Lit × DataW H) → Nat
  | [] => 0
  | x :: r => uptoBulkEntry x + uptoBulkEntries r
def uptoBulkEntry {H : Type} : Lit × DataW H → Nat
  | (.string bytes, d) => bytes.length + uptoBulk d + 1
  | (_, d) => uptoBulk d + 1
 end
def uptoSmall : (H : Type) → List (DataW H) → Bool := fun _ ds => decide (uptoBulkAll ds ≤ 1048576)
def OpenSpec.upto (s : _root_.Go.ChangeSpec) : _root_.Go.OpenSpec := { _root_.Go.OpenSpec.ofChange s with cond := some uptoSmall }

/-- 'intagliolaw03.GrammarEnumsAll', WHERE WHAT IT READS IS OF BULK AT MOST 1048576: true; the input reads as it did. -/
def grammarEnumsAllUptoRow : OpenClaim := { program := "ytheckaonphmmiaa", sum := "28c66a385d94e22781274ca77c942160e90ec15937fa430f7172811ab2bc83b0", func := "intaglio/intagliolaw03.GrammarEnumsAll", spec := "grammarEnumsAll", unfollowed := true, recurses := true, apart := false, narrowed := true }
def GrammarEnumsAllUptoSaid : Prop := grammarEnumsAllUptoRow.holds Try.pinned (OpenSpec.upto grammarEnumsAllSpec)

/-- 'intagliolaw03.GrammarEnums', WHERE WHAT IT READS IS OF BULK AT MOST 1048576: true; the input reads as it did. -/
def grammarEnumsUptoRow : OpenClaim := { program := "ytheckaonphmmiaa", sum := "28c66a385d94e22781274ca77c942160e90ec15937fa430f7172811ab2bc83b0", func := "intaglio/intagliolaw03.GrammarEnums", spec := "grammarEnums", unfollowed := true, recurses := true, apart := false, narrowed := true }
def GrammarEnumsUptoSaid : Prop := grammarEnumsUptoRow.holds Try.pinned (OpenSpec.upto grammarEnumsSpec)

/-- 'intagliolaw03.GrammarForms', WHERE WHAT IT READS IS OF BULK AT MOST 1048576: true; the input reads as it did. -/
def grammarFormsUptoRow : OpenClaim := { program := "ytheckaonphmmiaa", sum := "28c66a385d94e22781274ca77c942160e90ec15937fa430f7172811ab2bc83b0", func := "intaglio/intagliolaw03.GrammarForms", spec := "grammarForms", apart := false, narrowed := true }
def GrammarFormsUptoSaid : Prop := grammarFormsUptoRow.holds Try.pinned (OpenSpec.upto grammarFormsSpec)

/-- 'intagliolaw03.GrammarAll', WHERE WHAT IT READS IS OF BULK AT MOST 1048576: true; the input reads as it did. -/
def grammarAllUptoRow : OpenClaim := { program := "ytheckaonphmmiaa", sum := "28c66a385d94e22781274ca77c942160e90ec15937fa430f7172811ab2bc83b0", func := "intaglio/intagliolaw03.GrammarAll", spec := "grammarAll", unfollowed := true, recurses := true, apart := false, narrowed := true }
def GrammarAllUptoSaid : Prop := grammarAllUptoRow.holds Try.pinned (OpenSpec.upto grammarAllSpec)

/-- 'intagliolaw03.GrammarNamed', WHERE WHAT IT READS IS OF BULK AT MOST 1048576: true; the input reads as it did. -/
def grammarNamedUptoRow : OpenClaim := { program := "ytheckaonphmmiaa", sum := "28c66a385d94e22781274ca77c942160e90ec15937fa430f7172811ab2bc83b0", func := "intaglio/intagliolaw03.GrammarNamed", spec := "grammarNamed", unfollowed := true, recurses := true, apart := false, narrowed := true }
def GrammarNamedUptoSaid : Prop := grammarNamedUptoRow.holds Try.pinned (OpenSpec.upto grammarNamedSpec)

/-- 'intagliolaw03.GrammarLetters', WHERE WHAT IT READS IS OF BULK AT MOST 1048576: true; the input reads as it did. -/
def grammarLettersUptoRow : OpenClaim := { program := "ytheckaonphmmiaa", sum := "28c66a385d94e22781274ca77c942160e90ec15937fa430f7172811ab2bc83b0", func := "intaglio/intagliolaw03.GrammarLetters", spec := "grammarLetters", unfollowed := true, recurses := true, apart := false, narrowed := true }
def GrammarLettersUptoSaid : Prop := grammarLettersUptoRow.holds Try.pinned (OpenSpec.upto grammarLettersSpec)

/-- 'intagliolaw03.GrammarFits', WHERE WHAT IT READS IS OF BULK AT MOST 1048576: true; the input reads as it did. -/
def grammarFitsUptoRow : OpenClaim := { program := "ytheckaonphmmiaa", sum := "28c66a385d94e22781274ca77c942160e90ec15937fa430f7172811ab2bc83b0", func := "intaglio/intagliolaw03.GrammarFits", spec := "grammarFits", unfollowed := true, recurses := true, apart := false, narrowed := true }
def GrammarFitsUptoSaid : Prop := grammarFitsUptoRow.holds Try.pinned (OpenSpec.upto grammarFitsSpec)

/-- 'intagliolaw03.GrammarRows', WHERE WHAT IT READS IS OF BULK AT MOST 1048576: true; the input reads as it did. -/
def grammarRowsUptoRow : OpenClaim := { program := "ytheckaonphmmiaa", sum := "28c66a385d94e22781274ca77c942160e90ec15937fa430f7172811ab2bc83b0", func := "intaglio/intagliolaw03.GrammarRows", spec := "grammarRows", unfollowed := true, recurses := true, apart := false, narrowed := true }
def GrammarRowsUptoSaid : Prop := grammarRowsUptoRow.holds Try.pinned (OpenSpec.upto grammarRowsSpec)

/-- 'intagliolaw03.GrammarBack', WHERE WHAT IT READS IS OF BULK AT MOST 1048576: true; the input reads as it did. -/
def grammarBackUptoRow : OpenClaim := { program := "ytheckaonphmmiaa", sum := "28c66a385d94e22781274ca77c942160e90ec15937fa430f7172811ab2bc83b0", func := "intaglio/intagliolaw03.GrammarBack", spec := "grammarBack", unfollowed := true, recurses := true, apart := false, narrowed := true }
def GrammarBackUptoSaid : Prop := grammarBackUptoRow.holds Try.pinned (OpenSpec.upto grammarBackSpec)

end Rows
end Go.Proofs.Ytheckaonphmmiaa
