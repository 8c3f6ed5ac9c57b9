/-
  DERIVED. GIVEN WITH THE SEED: THE CARDS: each row of YtglmmdpeenckbaaGreatDoorRows.lean that lists a variable, with what it lists TIED to the program's text (the seventh form; the later family's looks); each row that meets fmt, with fmt's text TOLD by the authors' own Lean function (tested against real Go, not proved from fmt's source: count such statements apart). THE CARD IS WHAT COUNTS. Prove the row's statement (the work); the ties are given (YtglmmdpeenckbaaGreatDoorTie.lean); close each card by the builder's one call (the guide's Derived/Test/ToyasCard.lean, 'card_holds'). Laid BY PROGRAM, IN A SANDBOX (cutbox-door.mjs). By AI agents, Wed Nov 11 2026. No macro, syntax, notation, axiom, sorry.
-/
import Derived.Test.YtglmmdpeenckbaaGreatDoorRows
import GoSem.ClaimSeven
namespace Go.Proofs.YtglmmdpeenckbaaGreatDoor
namespace Rows

/-- THE TIED CARD OF 'intagliotop.WholeText'. -/
def wholeTextCard : Claim7 := { stood := { row := wholeTextRow, standIns := [], harness := (true, "2592a734141eb444c1a2fd3ec1fe7d9b98ffc7d50a4673eadb7643ca622e39b9"), looks := true }, kinds := [], alts := [], laidByText := true, laidKinds := [.data, .data, .data, .sentinel, .sentinel], laidTests := true, laidLooks := .later }
def WholeTextCardSaid : Prop := Claim7.holds Tryz.pinned (.plain (OpenSpec.ofChange wholeTextSpec)) wholeTextCard

/-- THE TIED CARD OF 'intagliotop.WholeBytes'. -/
def wholeBytesCard : Claim7 := { stood := { row := wholeBytesRow, standIns := [], harness := (true, "2592a734141eb444c1a2fd3ec1fe7d9b98ffc7d50a4673eadb7643ca622e39b9"), looks := true }, kinds := [], alts := [], laidByText := true, laidKinds := [.data, .data, .data, .sentinel, .sentinel], laidTests := true, laidLooks := .later }
def WholeBytesCardSaid : Prop := Claim7.holds Tryz.pinned (.plain (OpenSpec.ofChange wholeBytesSpec)) wholeBytesCard

/-- THE TIED CARD OF 'intagliolaw08.PrintTexts'. -/
def printTextsCard : Claim7 := { stood := { row := printTextsRow, standIns := [], harness := (true, "2592a734141eb444c1a2fd3ec1fe7d9b98ffc7d50a4673eadb7643ca622e39b9"), looks := true }, kinds := [], alts := [], laidByText := true, laidKinds := [.data, .data, .data, .sentinel, .sentinel], laidTests := true, laidLooks := .later }
def PrintTextsCardSaid : Prop := Claim7.holds Tryz.pinned (.plain (OpenSpec.ofChange printTextsSpec)) printTextsCard

/-- THE TIED CARD OF 'intagliolaw08.PrintLines'. -/
def printLinesCard : Claim7 := { stood := { row := printLinesRow, standIns := [], harness := (true, "2592a734141eb444c1a2fd3ec1fe7d9b98ffc7d50a4673eadb7643ca622e39b9"), looks := true }, kinds := [], alts := [], laidByText := true, laidKinds := [.data, .data, .data, .sentinel, .sentinel], laidTests := true, laidLooks := .later }
def PrintLinesCardSaid : Prop := Claim7.holds Tryz.pinned (.plain (OpenSpec.ofChange printLinesSpec)) printLinesCard

/-- THE TIED CARD OF 'intagliolaw07.AsmLines'. -/
def asmLinesCard : Claim7 := { stood := { row := asmLinesRow, standIns := [], harness := (true, "2592a734141eb444c1a2fd3ec1fe7d9b98ffc7d50a4673eadb7643ca622e39b9"), looks := true }, kinds := [], alts := [], laidByText := true, laidKinds := [.data, .data, .data, .sentinel, .sentinel], laidTests := true, laidLooks := .later }
def AsmLinesCardSaid : Prop := Claim7.holds Tryz.pinned (.plain (OpenSpec.ofChange asmLinesSpec)) asmLinesCard

/-- THE TIED CARD OF 'intagliolaw08.PrintRefused'. -/
def printRefusedCard : Claim7 := { stood := { row := printRefusedRow, standIns := [], harness := (true, "2592a734141eb444c1a2fd3ec1fe7d9b98ffc7d50a4673eadb7643ca622e39b9"), looks := true }, kinds := [], alts := [], laidByText := true, laidKinds := [.data, .data, .data, .sentinel, .sentinel], laidTests := true, laidLooks := .later }
def PrintRefusedCardSaid : Prop := Claim7.holds Tryz.pinned (.plain (OpenSpec.ofChange printRefusedSpec)) printRefusedCard

/-- THE TIED CARD OF 'intagliolaw08.PrintEach'. -/
def printEachCard : Claim7 := { stood := { row := printEachRow, standIns := [], harness := (true, "2592a734141eb444c1a2fd3ec1fe7d9b98ffc7d50a4673eadb7643ca622e39b9"), looks := true }, kinds := [], alts := [], laidByText := true, laidKinds := [.data, .data, .data, .sentinel, .sentinel], laidTests := true, laidLooks := .later }
def PrintEachCardSaid : Prop := Claim7.holds Tryz.pinned (.plain (OpenSpec.ofChange printEachSpec)) printEachCard

/-- THE TIED CARD OF 'intagliolaw07.AsmParses'. -/
def asmParsesCard : Claim7 := { stood := { row := asmParsesRow, standIns := [], harness := (true, "2592a734141eb444c1a2fd3ec1fe7d9b98ffc7d50a4673eadb7643ca622e39b9"), looks := true }, kinds := [], alts := [], laidByText := true, laidKinds := [.data, .data, .data, .sentinel, .sentinel], laidTests := true, laidLooks := .later }
def AsmParsesCardSaid : Prop := Claim7.holds Tryz.pinned (.plain (OpenSpec.ofChange asmParsesSpec)) asmParsesCard

/-- THE TIED CARD OF 'intagliolaw07.AsmReads'. -/
def asmReadsCard : Claim7 := { stood := { row := asmReadsRow, standIns := [], harness := (true, "2592a734141eb444c1a2fd3ec1fe7d9b98ffc7d50a4673eadb7643ca622e39b9"), looks := true }, kinds := [], alts := [], laidByText := true, laidKinds := [.data, .data, .data, .sentinel, .sentinel], laidTests := true, laidLooks := .later }
def AsmReadsCardSaid : Prop := Claim7.holds Tryz.pinned (.plain (OpenSpec.ofChange asmReadsSpec)) asmReadsCard

/-- THE TIED CARD OF 'intagliolaw07.AsmShaped'. -/
def asmShapedCard : Claim7 := { stood := { row := asmShapedRow, standIns := [], harness := (true, "2592a734141eb444c1a2fd3ec1fe7d9b98ffc7d50a4673eadb7643ca622e39b9"), looks := true }, kinds := [], alts := [], laidByText := true, laidKinds := [.data, .data, .data, .sentinel, .sentinel], laidTests := true, laidLooks := .later }
def AsmShapedCardSaid : Prop := Claim7.holds Tryz.pinned (.plain (OpenSpec.ofChange asmShapedSpec)) asmShapedCard

/-- THE TIED CARD OF 'intagliolaw07.AsmWrong'. -/
def asmWrongCard : Claim7 := { stood := { row := asmWrongRow, standIns := [], harness := (true, "2592a734141eb444c1a2fd3ec1fe7d9b98ffc7d50a4673eadb7643ca622e39b9"), looks := true }, kinds := [], alts := [], laidByText := true, laidKinds := [.data, .data, .data, .sentinel, .sentinel], laidTests := true, laidLooks := .later }
def AsmWrongCardSaid : Prop := Claim7.holds Tryz.pinned (.plain (OpenSpec.ofChange asmWrongSpec)) asmWrongCard

/-- THE TIED CARD OF 'intagliolaw08.PrintRead'. -/
def printReadCard : Claim7 := { stood := { row := printReadRow, standIns := [], harness := (true, "2592a734141eb444c1a2fd3ec1fe7d9b98ffc7d50a4673eadb7643ca622e39b9"), looks := true }, kinds := [], alts := [], laidByText := true, laidKinds := [.data, .data, .data, .sentinel, .sentinel], laidTests := true, laidLooks := .later }
def PrintReadCardSaid : Prop := Claim7.holds Tryz.pinned (.plain (OpenSpec.ofChange printReadSpec)) printReadCard

/-- THE TIED CARD OF 'intagliolaw08.PrintFixed'. -/
def printFixedCard : Claim7 := { stood := { row := printFixedRow, standIns := [], harness := (true, "2592a734141eb444c1a2fd3ec1fe7d9b98ffc7d50a4673eadb7643ca622e39b9"), looks := true }, kinds := [], alts := [], laidByText := true, laidKinds := [.data, .data, .data, .sentinel, .sentinel], laidTests := true, laidLooks := .later }
def PrintFixedCardSaid : Prop := Claim7.holds Tryz.pinned (.plain (OpenSpec.ofChange printFixedSpec)) printFixedCard

/-- THE TIED CARD OF 'intagliolaw08.PrintWhole'. -/
def printWholeCard : Claim7 := { stood := { row := printWholeRow, standIns := [], harness := (true, "2592a734141eb444c1a2fd3ec1fe7d9b98ffc7d50a4673eadb7643ca622e39b9"), looks := true }, kinds := [], alts := [], laidByText := true, laidKinds := [.data, .data, .data, .sentinel, .sentinel], laidTests := true, laidLooks := .later }
def PrintWholeCardSaid : Prop := Claim7.holds Tryz.pinned (.plain (OpenSpec.ofChange printWholeSpec)) printWholeCard

/-- THE SECOND FORM's CARD OF 'intagliotop.WholeText'. -/
def wholeTextUptoCard : Claim7 := { stood := { row := wholeTextUptoRow, standIns := [], harness := (true, "2592a734141eb444c1a2fd3ec1fe7d9b98ffc7d50a4673eadb7643ca622e39b9"), looks := true }, kinds := [], alts := [], laidByText := true, laidKinds := [.data, .data, .data, .sentinel, .sentinel], laidTests := true, laidLooks := .later }
def WholeTextUptoCardSaid : Prop := Claim7.holds Tryz.pinned (.plain (OpenSpec.upto wholeTextSpec)) wholeTextUptoCard

/-- THE SECOND FORM's CARD OF 'intagliotop.WholeBytes'. -/
def wholeBytesUptoCard : Claim7 := { stood := { row := wholeBytesUptoRow, standIns := [], harness := (true, "2592a734141eb444c1a2fd3ec1fe7d9b98ffc7d50a4673eadb7643ca622e39b9"), looks := true }, kinds := [], alts := [], laidByText := true, laidKinds := [.data, .data, .data, .sentinel, .sentinel], laidTests := true, laidLooks := .later }
def WholeBytesUptoCardSaid : Prop := Claim7.holds Tryz.pinned (.plain (OpenSpec.upto wholeBytesSpec)) wholeBytesUptoCard

/-- THE SECOND FORM's CARD OF 'intagliolaw08.PrintTexts'. -/
def printTextsUptoCard : Claim7 := { stood := { row := printTextsUptoRow, standIns := [], harness := (true, "2592a734141eb444c1a2fd3ec1fe7d9b98ffc7d50a4673eadb7643ca622e39b9"), looks := true }, kinds := [], alts := [], laidByText := true, laidKinds := [.data, .data, .data, .sentinel, .sentinel], laidTests := true, laidLooks := .later }
def PrintTextsUptoCardSaid : Prop := Claim7.holds Tryz.pinned (.plain (OpenSpec.upto printTextsSpec)) printTextsUptoCard

/-- THE SECOND FORM's CARD OF 'intagliolaw08.PrintLines'. -/
def printLinesUptoCard : Claim7 := { stood := { row := printLinesUptoRow, standIns := [], harness := (true, "2592a734141eb444c1a2fd3ec1fe7d9b98ffc7d50a4673eadb7643ca622e39b9"), looks := true }, kinds := [], alts := [], laidByText := true, laidKinds := [.data, .data, .data, .sentinel, .sentinel], laidTests := true, laidLooks := .later }
def PrintLinesUptoCardSaid : Prop := Claim7.holds Tryz.pinned (.plain (OpenSpec.upto printLinesSpec)) printLinesUptoCard

/-- THE SECOND FORM's CARD OF 'intagliolaw07.AsmLines'. -/
def asmLinesUptoCard : Claim7 := { stood := { row := asmLinesUptoRow, standIns := [], harness := (true, "2592a734141eb444c1a2fd3ec1fe7d9b98ffc7d50a4673eadb7643ca622e39b9"), looks := true }, kinds := [], alts := [], laidByText := true, laidKinds := [.data, .data, .data, .sentinel, .sentinel], laidTests := true, laidLooks := .later }
def AsmLinesUptoCardSaid : Prop := Claim7.holds Tryz.pinned (.plain (OpenSpec.upto asmLinesSpec)) asmLinesUptoCard

/-- THE SECOND FORM's CARD OF 'intagliolaw08.PrintRefused'. -/
def printRefusedUptoCard : Claim7 := { stood := { row := printRefusedUptoRow, standIns := [], harness := (true, "2592a734141eb444c1a2fd3ec1fe7d9b98ffc7d50a4673eadb7643ca622e39b9"), looks := true }, kinds := [], alts := [], laidByText := true, laidKinds := [.data, .data, .data, .sentinel, .sentinel], laidTests := true, laidLooks := .later }
def PrintRefusedUptoCardSaid : Prop := Claim7.holds Tryz.pinned (.plain (OpenSpec.upto printRefusedSpec)) printRefusedUptoCard

/-- THE SECOND FORM's CARD OF 'intagliolaw08.PrintEach'. -/
def printEachUptoCard : Claim7 := { stood := { row := printEachUptoRow, standIns := [], harness := (true, "2592a734141eb444c1a2fd3ec1fe7d9b98ffc7d50a4673eadb7643ca622e39b9"), looks := true }, kinds := [], alts := [], laidByText := true, laidKinds := [.data, .data, .data, .sentinel, .sentinel], laidTests := true, laidLooks := .later }
def PrintEachUptoCardSaid : Prop := Claim7.holds Tryz.pinned (.plain (OpenSpec.upto printEachSpec)) printEachUptoCard

/-- THE SECOND FORM's CARD OF 'intagliolaw07.AsmParses'. -/
def asmParsesUptoCard : Claim7 := { stood := { row := asmParsesUptoRow, standIns := [], harness := (true, "2592a734141eb444c1a2fd3ec1fe7d9b98ffc7d50a4673eadb7643ca622e39b9"), looks := true }, kinds := [], alts := [], laidByText := true, laidKinds := [.data, .data, .data, .sentinel, .sentinel], laidTests := true, laidLooks := .later }
def AsmParsesUptoCardSaid : Prop := Claim7.holds Tryz.pinned (.plain (OpenSpec.upto asmParsesSpec)) asmParsesUptoCard

/-- THE SECOND FORM's CARD OF 'intagliolaw07.AsmReads'. -/
def asmReadsUptoCard : Claim7 := { stood := { row := asmReadsUptoRow, standIns := [], harness := (true, "2592a734141eb444c1a2fd3ec1fe7d9b98ffc7d50a4673eadb7643ca622e39b9"), looks := true }, kinds := [], alts := [], laidByText := true, laidKinds := [.data, .data, .data, .sentinel, .sentinel], laidTests := true, laidLooks := .later }
def AsmReadsUptoCardSaid : Prop := Claim7.holds Tryz.pinned (.plain (OpenSpec.upto asmReadsSpec)) asmReadsUptoCard

/-- THE SECOND FORM's CARD OF 'intagliolaw07.AsmShaped'. -/
def asmShapedUptoCard : Claim7 := { stood := { row := asmShapedUptoRow, standIns := [], harness := (true, "2592a734141eb444c1a2fd3ec1fe7d9b98ffc7d50a4673eadb7643ca622e39b9"), looks := true }, kinds := [], alts := [], laidByText := true, laidKinds := [.data, .data, .data, .sentinel, .sentinel], laidTests := true, laidLooks := .later }
def AsmShapedUptoCardSaid : Prop := Claim7.holds Tryz.pinned (.plain (OpenSpec.upto asmShapedSpec)) asmShapedUptoCard

/-- THE SECOND FORM's CARD OF 'intagliolaw07.AsmWrong'. -/
def asmWrongUptoCard : Claim7 := { stood := { row := asmWrongUptoRow, standIns := [], harness := (true, "2592a734141eb444c1a2fd3ec1fe7d9b98ffc7d50a4673eadb7643ca622e39b9"), looks := true }, kinds := [], alts := [], laidByText := true, laidKinds := [.data, .data, .data, .sentinel, .sentinel], laidTests := true, laidLooks := .later }
def AsmWrongUptoCardSaid : Prop := Claim7.holds Tryz.pinned (.plain (OpenSpec.upto asmWrongSpec)) asmWrongUptoCard

/-- THE SECOND FORM's CARD OF 'intagliolaw08.PrintRead'. -/
def printReadUptoCard : Claim7 := { stood := { row := printReadUptoRow, standIns := [], harness := (true, "2592a734141eb444c1a2fd3ec1fe7d9b98ffc7d50a4673eadb7643ca622e39b9"), looks := true }, kinds := [], alts := [], laidByText := true, laidKinds := [.data, .data, .data, .sentinel, .sentinel], laidTests := true, laidLooks := .later }
def PrintReadUptoCardSaid : Prop := Claim7.holds Tryz.pinned (.plain (OpenSpec.upto printReadSpec)) printReadUptoCard

/-- THE SECOND FORM's CARD OF 'intagliolaw08.PrintFixed'. -/
def printFixedUptoCard : Claim7 := { stood := { row := printFixedUptoRow, standIns := [], harness := (true, "2592a734141eb444c1a2fd3ec1fe7d9b98ffc7d50a4673eadb7643ca622e39b9"), looks := true }, kinds := [], alts := [], laidByText := true, laidKinds := [.data, .data, .data, .sentinel, .sentinel], laidTests := true, laidLooks := .later }
def PrintFixedUptoCardSaid : Prop := Claim7.holds Tryz.pinned (.plain (OpenSpec.upto printFixedSpec)) printFixedUptoCard

/-- THE SECOND FORM's CARD OF 'intagliolaw08.PrintWhole'. -/
def printWholeUptoCard : Claim7 := { stood := { row := printWholeUptoRow, standIns := [], harness := (true, "2592a734141eb444c1a2fd3ec1fe7d9b98ffc7d50a4673eadb7643ca622e39b9"), looks := true }, kinds := [], alts := [], laidByText := true, laidKinds := [.data, .data, .data, .sentinel, .sentinel], laidTests := true, laidLooks := .later }
def PrintWholeUptoCardSaid : Prop := Claim7.holds Tryz.pinned (.plain (OpenSpec.upto printWholeSpec)) printWholeUptoCard
end Rows
end Go.Proofs.YtglmmdpeenckbaaGreatDoor
