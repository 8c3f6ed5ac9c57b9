/-
  DERIVED. GIVEN WITH THE SEED: THE CARDS: each row of YtalnjboddfedjaaDoorRows.lean that lists a variable, with what it lists TIED to the program's text (the seventh form; the later family's looks); each row that meets fmt, with fmt's text TOLD by the authors' own Lean function (tested against real Go, not proved from fmt's source: count such statements apart). THE CARD IS WHAT COUNTS. Prove the row's statement (the work); the ties are given (YtalnjboddfedjaaDoorTie.lean); close each card by the builder's one call (the guide's Derived/Test/ToyasCard.lean, 'card_holds'). Laid BY PROGRAM, IN A SANDBOX (cutbox-door.mjs). By AI agents, Wed Nov 11 2026. No macro, syntax, notation, axiom, sorry.
-/
import Derived.Test.YtalnjboddfedjaaDoorRows
import GoSem.ClaimSeven
namespace Go.Proofs.YtalnjboddfedjaaDoor
namespace Rows

/-- THE TIED CARD OF 'intagliolaw06.LexTokens'. -/
def lexTokensCard : Claim7 := { stood := { row := lexTokensRow, standIns := [], harness := (true, "409e46cb17856a3a0d6f50fa152442b518281a865246c0472dc3a51d1c82d60f"), looks := true }, kinds := [], alts := [], laidByText := true, laidKinds := [.data, .data, .data, .sentinel, .sentinel], laidTests := true, laidLooks := .later }
def LexTokensCardSaid : Prop := Claim7.holds Tryd.pinned (.plain (OpenSpec.ofChange lexTokensSpec)) lexTokensCard

/-- THE TIED CARD OF 'intagliolaw06.LexNumber'. -/
def lexNumberCard : Claim7 := { stood := { row := lexNumberRow, standIns := [], harness := (true, "409e46cb17856a3a0d6f50fa152442b518281a865246c0472dc3a51d1c82d60f"), looks := true }, kinds := [], alts := [], laidByText := true, laidKinds := [.data, .data, .data, .sentinel, .sentinel], laidTests := true, laidLooks := .later }
def LexNumberCardSaid : Prop := Claim7.holds Tryd.pinned (.plain (OpenSpec.ofChange lexNumberSpec)) lexNumberCard

/-- THE TIED CARD OF 'intagliolaw06.LexQuotes'. -/
def lexQuotesCard : Claim7 := { stood := { row := lexQuotesRow, standIns := [], harness := (true, "409e46cb17856a3a0d6f50fa152442b518281a865246c0472dc3a51d1c82d60f"), looks := true }, kinds := [], alts := [], laidByText := true, laidKinds := [.data, .data, .data, .sentinel, .sentinel], laidTests := true, laidLooks := .later }
def LexQuotesCardSaid : Prop := Claim7.holds Tryd.pinned (.plain (OpenSpec.ofChange lexQuotesSpec)) lexQuotesCard

/-- THE TIED CARD OF 'intagliolaw06.LexWrites'. -/
def lexWritesCard : Claim7 := { stood := { row := lexWritesRow, standIns := [], harness := (true, "409e46cb17856a3a0d6f50fa152442b518281a865246c0472dc3a51d1c82d60f"), looks := true }, kinds := [], alts := [], laidByText := true, laidKinds := [.data, .data, .data, .sentinel, .sentinel], laidTests := true, laidLooks := .later }
def LexWritesCardSaid : Prop := Claim7.holds Tryd.pinned (.plain (OpenSpec.ofChange lexWritesSpec)) lexWritesCard

/-- THE TIED CARD OF 'intagliolaw06.LexSpaced'. -/
def lexSpacedCard : Claim7 := { stood := { row := lexSpacedRow, standIns := [], harness := (true, "409e46cb17856a3a0d6f50fa152442b518281a865246c0472dc3a51d1c82d60f"), looks := true }, kinds := [], alts := [], laidByText := true, laidKinds := [.data, .data, .data, .sentinel, .sentinel], laidTests := true, laidLooks := .later }
def LexSpacedCardSaid : Prop := Claim7.holds Tryd.pinned (.plain (OpenSpec.ofChange lexSpacedSpec)) lexSpacedCard

/-- THE TIED CARD OF 'intagliolaw06.LexBack'. -/
def lexBackCard : Claim7 := { stood := { row := lexBackRow, standIns := [], harness := (true, "409e46cb17856a3a0d6f50fa152442b518281a865246c0472dc3a51d1c82d60f"), looks := true }, kinds := [], alts := [], laidByText := true, laidKinds := [.data, .data, .data, .sentinel, .sentinel], laidTests := true, laidLooks := .later }
def LexBackCardSaid : Prop := Claim7.holds Tryd.pinned (.plain (OpenSpec.ofChange lexBackSpec)) lexBackCard

/-- THE TIED CARD OF 'intagliolaw06.LexForth'. -/
def lexForthCard : Claim7 := { stood := { row := lexForthRow, standIns := [], harness := (true, "409e46cb17856a3a0d6f50fa152442b518281a865246c0472dc3a51d1c82d60f"), looks := true }, kinds := [], alts := [], laidByText := true, laidKinds := [.data, .data, .data, .sentinel, .sentinel], laidTests := true, laidLooks := .later }
def LexForthCardSaid : Prop := Claim7.holds Tryd.pinned (.plain (OpenSpec.ofChange lexForthSpec)) lexForthCard

/-- THE TIED CARD OF 'intagliolaw06.LexText'. -/
def lexTextCard : Claim7 := { stood := { row := lexTextRow, standIns := [], harness := (true, "409e46cb17856a3a0d6f50fa152442b518281a865246c0472dc3a51d1c82d60f"), looks := true }, kinds := [], alts := [], laidByText := true, laidKinds := [.data, .data, .data, .sentinel, .sentinel], laidTests := true, laidLooks := .later }
def LexTextCardSaid : Prop := Claim7.holds Tryd.pinned (.plain (OpenSpec.ofChange lexTextSpec)) lexTextCard

/-- THE TIED CARD OF 'intagliolaw06.LexDigits'. -/
def lexDigitsCard : Claim7 := { stood := { row := lexDigitsRow, standIns := [], harness := (true, "409e46cb17856a3a0d6f50fa152442b518281a865246c0472dc3a51d1c82d60f"), looks := true }, kinds := [], alts := [], laidByText := true, laidKinds := [.data, .data, .data, .sentinel, .sentinel], laidTests := true, laidLooks := .later }
def LexDigitsCardSaid : Prop := Claim7.holds Tryd.pinned (.plain (OpenSpec.ofChange lexDigitsSpec)) lexDigitsCard

/-- THE TIED CARD OF 'intagliolaw06.LexLines'. -/
def lexLinesCard : Claim7 := { stood := { row := lexLinesRow, standIns := [], harness := (true, "409e46cb17856a3a0d6f50fa152442b518281a865246c0472dc3a51d1c82d60f"), looks := true }, kinds := [], alts := [], laidByText := true, laidKinds := [.data, .data, .data, .sentinel, .sentinel], laidTests := true, laidLooks := .later }
def LexLinesCardSaid : Prop := Claim7.holds Tryd.pinned (.plain (OpenSpec.ofChange lexLinesSpec)) lexLinesCard

/-- THE TIED CARD OF 'intagliolaw06.LexJoined'. -/
def lexJoinedCard : Claim7 := { stood := { row := lexJoinedRow, standIns := [], harness := (true, "409e46cb17856a3a0d6f50fa152442b518281a865246c0472dc3a51d1c82d60f"), looks := true }, kinds := [], alts := [], laidByText := true, laidKinds := [.data, .data, .data, .sentinel, .sentinel], laidTests := true, laidLooks := .later }
def LexJoinedCardSaid : Prop := Claim7.holds Tryd.pinned (.plain (OpenSpec.ofChange lexJoinedSpec)) lexJoinedCard

/-- THE SECOND FORM's CARD OF 'intagliolaw06.LexTokens'. -/
def lexTokensUptoCard : Claim7 := { stood := { row := lexTokensUptoRow, standIns := [], harness := (true, "409e46cb17856a3a0d6f50fa152442b518281a865246c0472dc3a51d1c82d60f"), looks := true }, kinds := [], alts := [], laidByText := true, laidKinds := [.data, .data, .data, .sentinel, .sentinel], laidTests := true, laidLooks := .later }
def LexTokensUptoCardSaid : Prop := Claim7.holds Tryd.pinned (.plain (OpenSpec.upto lexTokensSpec)) lexTokensUptoCard

/-- THE SECOND FORM's CARD OF 'intagliolaw06.LexNumber'. -/
def lexNumberUptoCard : Claim7 := { stood := { row := lexNumberUptoRow, standIns := [], harness := (true, "409e46cb17856a3a0d6f50fa152442b518281a865246c0472dc3a51d1c82d60f"), looks := true }, kinds := [], alts := [], laidByText := true, laidKinds := [.data, .data, .data, .sentinel, .sentinel], laidTests := true, laidLooks := .later }
def LexNumberUptoCardSaid : Prop := Claim7.holds Tryd.pinned (.plain (OpenSpec.upto lexNumberSpec)) lexNumberUptoCard

/-- THE SECOND FORM's CARD OF 'intagliolaw06.LexQuotes'. -/
def lexQuotesUptoCard : Claim7 := { stood := { row := lexQuotesUptoRow, standIns := [], harness := (true, "409e46cb17856a3a0d6f50fa152442b518281a865246c0472dc3a51d1c82d60f"), looks := true }, kinds := [], alts := [], laidByText := true, laidKinds := [.data, .data, .data, .sentinel, .sentinel], laidTests := true, laidLooks := .later }
def LexQuotesUptoCardSaid : Prop := Claim7.holds Tryd.pinned (.plain (OpenSpec.upto lexQuotesSpec)) lexQuotesUptoCard

/-- THE SECOND FORM's CARD OF 'intagliolaw06.LexWrites'. -/
def lexWritesUptoCard : Claim7 := { stood := { row := lexWritesUptoRow, standIns := [], harness := (true, "409e46cb17856a3a0d6f50fa152442b518281a865246c0472dc3a51d1c82d60f"), looks := true }, kinds := [], alts := [], laidByText := true, laidKinds := [.data, .data, .data, .sentinel, .sentinel], laidTests := true, laidLooks := .later }
def LexWritesUptoCardSaid : Prop := Claim7.holds Tryd.pinned (.plain (OpenSpec.upto lexWritesSpec)) lexWritesUptoCard

/-- THE SECOND FORM's CARD OF 'intagliolaw06.LexSpaced'. -/
def lexSpacedUptoCard : Claim7 := { stood := { row := lexSpacedUptoRow, standIns := [], harness := (true, "409e46cb17856a3a0d6f50fa152442b518281a865246c0472dc3a51d1c82d60f"), looks := true }, kinds := [], alts := [], laidByText := true, laidKinds := [.data, .data, .data, .sentinel, .sentinel], laidTests := true, laidLooks := .later }
def LexSpacedUptoCardSaid : Prop := Claim7.holds Tryd.pinned (.plain (OpenSpec.upto lexSpacedSpec)) lexSpacedUptoCard

/-- THE SECOND FORM's CARD OF 'intagliolaw06.LexBack'. -/
def lexBackUptoCard : Claim7 := { stood := { row := lexBackUptoRow, standIns := [], harness := (true, "409e46cb17856a3a0d6f50fa152442b518281a865246c0472dc3a51d1c82d60f"), looks := true }, kinds := [], alts := [], laidByText := true, laidKinds := [.data, .data, .data, .sentinel, .sentinel], laidTests := true, laidLooks := .later }
def LexBackUptoCardSaid : Prop := Claim7.holds Tryd.pinned (.plain (OpenSpec.upto lexBackSpec)) lexBackUptoCard

/-- THE SECOND FORM's CARD OF 'intagliolaw06.LexForth'. -/
def lexForthUptoCard : Claim7 := { stood := { row := lexForthUptoRow, standIns := [], harness := (true, "409e46cb17856a3a0d6f50fa152442b518281a865246c0472dc3a51d1c82d60f"), looks := true }, kinds := [], alts := [], laidByText := true, laidKinds := [.data, .data, .data, .sentinel, .sentinel], laidTests := true, laidLooks := .later }
def LexForthUptoCardSaid : Prop := Claim7.holds Tryd.pinned (.plain (OpenSpec.upto lexForthSpec)) lexForthUptoCard

/-- THE SECOND FORM's CARD OF 'intagliolaw06.LexText'. -/
def lexTextUptoCard : Claim7 := { stood := { row := lexTextUptoRow, standIns := [], harness := (true, "409e46cb17856a3a0d6f50fa152442b518281a865246c0472dc3a51d1c82d60f"), looks := true }, kinds := [], alts := [], laidByText := true, laidKinds := [.data, .data, .data, .sentinel, .sentinel], laidTests := true, laidLooks := .later }
def LexTextUptoCardSaid : Prop := Claim7.holds Tryd.pinned (.plain (OpenSpec.upto lexTextSpec)) lexTextUptoCard

/-- THE SECOND FORM's CARD OF 'intagliolaw06.LexDigits'. -/
def lexDigitsUptoCard : Claim7 := { stood := { row := lexDigitsUptoRow, standIns := [], harness := (true, "409e46cb17856a3a0d6f50fa152442b518281a865246c0472dc3a51d1c82d60f"), looks := true }, kinds := [], alts := [], laidByText := true, laidKinds := [.data, .data, .data, .sentinel, .sentinel], laidTests := true, laidLooks := .later }
def LexDigitsUptoCardSaid : Prop := Claim7.holds Tryd.pinned (.plain (OpenSpec.upto lexDigitsSpec)) lexDigitsUptoCard

/-- THE SECOND FORM's CARD OF 'intagliolaw06.LexLines'. -/
def lexLinesUptoCard : Claim7 := { stood := { row := lexLinesUptoRow, standIns := [], harness := (true, "409e46cb17856a3a0d6f50fa152442b518281a865246c0472dc3a51d1c82d60f"), looks := true }, kinds := [], alts := [], laidByText := true, laidKinds := [.data, .data, .data, .sentinel, .sentinel], laidTests := true, laidLooks := .later }
def LexLinesUptoCardSaid : Prop := Claim7.holds Tryd.pinned (.plain (OpenSpec.upto lexLinesSpec)) lexLinesUptoCard

/-- THE SECOND FORM's CARD OF 'intagliolaw06.LexJoined'. -/
def lexJoinedUptoCard : Claim7 := { stood := { row := lexJoinedUptoRow, standIns := [], harness := (true, "409e46cb17856a3a0d6f50fa152442b518281a865246c0472dc3a51d1c82d60f"), looks := true }, kinds := [], alts := [], laidByText := true, laidKinds := [.data, .data, .data, .sentinel, .sentinel], laidTests := true, laidLooks := .later }
def LexJoinedUptoCardSaid : Prop := Claim7.holds Tryd.pinned (.plain (OpenSpec.upto lexJoinedSpec)) lexJoinedUptoCard
end Rows
end Go.Proofs.YtalnjboddfedjaaDoor
