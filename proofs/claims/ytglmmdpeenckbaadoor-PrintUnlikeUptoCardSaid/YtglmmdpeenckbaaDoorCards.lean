/-
  DERIVED. GIVEN WITH THE SEED: THE CARDS: each row of YtglmmdpeenckbaaDoorRows.lean that lists a variable, with what it lists TIED to the program's text (the seventh form; the later family's looks); each row that meets fmt, with fmt's text TOLD by the authors' own Lean function (tested against real Go, not proved from fmt's source: count such statements apart). THE CARD IS WHAT COUNTS. Prove the row's statement (the work); the ties are given (YtglmmdpeenckbaaDoorTie.lean); close each card by the builder's one call (the guide's Derived/Test/ToyasCard.lean, 'card_holds'). Laid BY PROGRAM, IN A SANDBOX (cutbox-door.mjs). By AI agents, Wed Nov 11 2026. No macro, syntax, notation, axiom, sorry.
-/
import Derived.Test.YtglmmdpeenckbaaDoorRows
import GoSem.ClaimSeven
namespace Go.Proofs.YtglmmdpeenckbaaDoor
namespace Rows

/-- THE TIED CARD OF 'intagliolaw07.AsmHeads'. -/
def asmHeadsCard : Claim7 := { stood := { row := asmHeadsRow, standIns := [], harness := (true, "6055cf5f894ad3f5b4a8ba780c5ce2fc880dca13a4ae24ea6a90527b0121b50e"), looks := true }, kinds := [], alts := [], laidByText := true, laidKinds := [.data, .data, .data, .sentinel, .sentinel], laidTests := true, laidLooks := .later }
def AsmHeadsCardSaid : Prop := Claim7.holds Tryd.pinned (.plain (OpenSpec.ofChange asmHeadsSpec)) asmHeadsCard

/-- THE TIED CARD OF 'intagliolaw08.PrintUnlike'. -/
def printUnlikeCard : Claim7 := { stood := { row := printUnlikeRow, standIns := [], harness := (true, "6055cf5f894ad3f5b4a8ba780c5ce2fc880dca13a4ae24ea6a90527b0121b50e"), looks := true }, kinds := [], alts := [], laidByText := true, laidKinds := [.data, .data, .data, .sentinel, .sentinel], laidTests := true, laidLooks := .later }
def PrintUnlikeCardSaid : Prop := Claim7.holds Tryd.pinned (.plain (OpenSpec.ofChange printUnlikeSpec)) printUnlikeCard

/-- THE SECOND FORM's CARD OF 'intagliolaw07.AsmHeads'. -/
def asmHeadsUptoCard : Claim7 := { stood := { row := asmHeadsUptoRow, standIns := [], harness := (true, "6055cf5f894ad3f5b4a8ba780c5ce2fc880dca13a4ae24ea6a90527b0121b50e"), looks := true }, kinds := [], alts := [], laidByText := true, laidKinds := [.data, .data, .data, .sentinel, .sentinel], laidTests := true, laidLooks := .later }
def AsmHeadsUptoCardSaid : Prop := Claim7.holds Tryd.pinned (.plain (OpenSpec.upto asmHeadsSpec)) asmHeadsUptoCard

/-- THE SECOND FORM's CARD OF 'intagliolaw08.PrintUnlike'. -/
def printUnlikeUptoCard : Claim7 := { stood := { row := printUnlikeUptoRow, standIns := [], harness := (true, "6055cf5f894ad3f5b4a8ba780c5ce2fc880dca13a4ae24ea6a90527b0121b50e"), looks := true }, kinds := [], alts := [], laidByText := true, laidKinds := [.data, .data, .data, .sentinel, .sentinel], laidTests := true, laidLooks := .later }
def PrintUnlikeUptoCardSaid : Prop := Claim7.holds Tryd.pinned (.plain (OpenSpec.upto printUnlikeSpec)) printUnlikeUptoCard
end Rows
end Go.Proofs.YtglmmdpeenckbaaDoor
