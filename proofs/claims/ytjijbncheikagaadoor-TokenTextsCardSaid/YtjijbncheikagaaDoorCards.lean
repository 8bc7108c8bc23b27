/-
  DERIVED. GIVEN WITH THE SEED: THE CARDS: each row of YtjijbncheikagaaDoorRows.lean that lists a variable, with what it lists TIED to the program's text (the seventh form; the later family's looks); each row that meets fmt, with fmt's text TOLD by the authors' own Lean function (tested against real Go, not proved from fmt's source: count such statements apart). THE CARD IS WHAT COUNTS. Prove the row's statement (the work); the ties are given (YtjijbncheikagaaDoorTie.lean); close each card by the builder's one call (the guide's Derived/Test/ToyasCard.lean, 'card_holds'). Laid BY PROGRAM, IN A SANDBOX (cutbox-door.mjs). By AI agents, Wed Nov 11 2026. No macro, syntax, notation, axiom, sorry.
-/
import Derived.Test.YtjijbncheikagaaDoorRows
import GoSem.ClaimSeven
namespace Go.Proofs.YtjijbncheikagaaDoor
namespace Rows

/-- THE TIED CARD OF 'cardexlaw02.EscapeTells'. -/
def escapeTellsCard : Claim7 := { stood := { row := escapeTellsRow, standIns := [], harness := (true, "9c543668fad85a20f5738e8409dab1e46e91141f455abb57d48580f5e02e8f3c"), looks := true }, kinds := [], alts := [], laidByText := true, laidKinds := [.data, .data, .data, .data, .sentinel, .sentinel, .pinned], laidTests := true, laidLooks := .later }
def EscapeTellsCardSaid : Prop := Claim7.holds Tryd.pinned (.plain (OpenSpec.ofChange escapeTellsSpec)) escapeTellsCard

/-- THE TIED CARD OF 'cardexlaw02.EscapeBack'. -/
def escapeBackCard : Claim7 := { stood := { row := escapeBackRow, standIns := [], harness := (true, "9c543668fad85a20f5738e8409dab1e46e91141f455abb57d48580f5e02e8f3c"), looks := true }, kinds := [], alts := [], laidByText := true, laidKinds := [.data, .data, .data, .data, .sentinel, .sentinel, .pinned], laidTests := true, laidLooks := .later }
def EscapeBackCardSaid : Prop := Claim7.holds Tryd.pinned (.plain (OpenSpec.ofChange escapeBackSpec)) escapeBackCard

/-- THE TIED CARD OF 'cardexlaw02.EscapeNumbers'. -/
def escapeNumbersCard : Claim7 := { stood := { row := escapeNumbersRow, standIns := [], harness := (true, "9c543668fad85a20f5738e8409dab1e46e91141f455abb57d48580f5e02e8f3c"), looks := true }, kinds := [], alts := [], laidByText := true, laidKinds := [.data, .data, .data, .data, .sentinel, .sentinel, .pinned], laidTests := true, laidLooks := .later }
def EscapeNumbersCardSaid : Prop := Claim7.holds Tryd.pinned (.plain (OpenSpec.ofChange escapeNumbersSpec)) escapeNumbersCard

/-- THE TIED CARD OF 'cardexlaw02.EscapeRefuses'. -/
def escapeRefusesCard : Claim7 := { stood := { row := escapeRefusesRow, standIns := [], harness := (true, "9c543668fad85a20f5738e8409dab1e46e91141f455abb57d48580f5e02e8f3c"), looks := true }, kinds := [], alts := [], laidByText := true, laidKinds := [.data, .data, .data, .data, .sentinel, .sentinel, .pinned], laidTests := true, laidLooks := .later }
def EscapeRefusesCardSaid : Prop := Claim7.holds Tryd.pinned (.plain (OpenSpec.ofChange escapeRefusesSpec)) escapeRefusesCard

/-- THE TIED CARD OF 'cardexlaw02.EscapeJoins'. -/
def escapeJoinsCard : Claim7 := { stood := { row := escapeJoinsRow, standIns := [], harness := (true, "9c543668fad85a20f5738e8409dab1e46e91141f455abb57d48580f5e02e8f3c"), looks := true }, kinds := [], alts := [], laidByText := true, laidKinds := [.data, .data, .data, .data, .sentinel, .sentinel, .pinned], laidTests := true, laidLooks := .later }
def EscapeJoinsCardSaid : Prop := Claim7.holds Tryd.pinned (.plain (OpenSpec.ofChange escapeJoinsSpec)) escapeJoinsCard

/-- THE TIED CARD OF 'cardexlaw08.TokenTexts'. -/
def tokenTextsCard : Claim7 := { stood := { row := tokenTextsRow, standIns := [], harness := (true, "9c543668fad85a20f5738e8409dab1e46e91141f455abb57d48580f5e02e8f3c"), looks := true }, kinds := [], alts := [], laidByText := true, laidKinds := [.data, .data, .data, .data, .sentinel, .sentinel, .pinned], laidTests := true, laidLooks := .later }
def TokenTextsCardSaid : Prop := Claim7.holds Tryd.pinned (.plain (OpenSpec.ofChange tokenTextsSpec)) tokenTextsCard

/-- THE TIED CARD OF 'cardexlaw08.TokenPlaces'. -/
def tokenPlacesCard : Claim7 := { stood := { row := tokenPlacesRow, standIns := [], harness := (true, "9c543668fad85a20f5738e8409dab1e46e91141f455abb57d48580f5e02e8f3c"), looks := true }, kinds := [], alts := [], laidByText := true, laidKinds := [.data, .data, .data, .data, .sentinel, .sentinel, .pinned], laidTests := true, laidLooks := .later }
def TokenPlacesCardSaid : Prop := Claim7.holds Tryd.pinned (.plain (OpenSpec.ofChange tokenPlacesSpec)) tokenPlacesCard

/-- THE TIED CARD OF 'cardexlaw08.TokenRefuses'. -/
def tokenRefusesCard : Claim7 := { stood := { row := tokenRefusesRow, standIns := [], harness := (true, "9c543668fad85a20f5738e8409dab1e46e91141f455abb57d48580f5e02e8f3c"), looks := true }, kinds := [], alts := [], laidByText := true, laidKinds := [.data, .data, .data, .data, .sentinel, .sentinel, .pinned], laidTests := true, laidLooks := .later }
def TokenRefusesCardSaid : Prop := Claim7.holds Tryd.pinned (.plain (OpenSpec.ofChange tokenRefusesSpec)) tokenRefusesCard

/-- THE TIED CARD OF 'cardexlaw08.TokenJoins'. -/
def tokenJoinsCard : Claim7 := { stood := { row := tokenJoinsRow, standIns := [], harness := (true, "9c543668fad85a20f5738e8409dab1e46e91141f455abb57d48580f5e02e8f3c"), looks := true }, kinds := [], alts := [], laidByText := true, laidKinds := [.data, .data, .data, .data, .sentinel, .sentinel, .pinned], laidTests := true, laidLooks := .later }
def TokenJoinsCardSaid : Prop := Claim7.holds Tryd.pinned (.plain (OpenSpec.ofChange tokenJoinsSpec)) tokenJoinsCard

/-- THE SECOND FORM's CARD OF 'cardexlaw02.EscapeTells'. -/
def escapeTellsUptoCard : Claim7 := { stood := { row := escapeTellsUptoRow, standIns := [], harness := (true, "9c543668fad85a20f5738e8409dab1e46e91141f455abb57d48580f5e02e8f3c"), looks := true }, kinds := [], alts := [], laidByText := true, laidKinds := [.data, .data, .data, .data, .sentinel, .sentinel, .pinned], laidTests := true, laidLooks := .later }
def EscapeTellsUptoCardSaid : Prop := Claim7.holds Tryd.pinned (.plain (OpenSpec.upto escapeTellsSpec)) escapeTellsUptoCard

/-- THE SECOND FORM's CARD OF 'cardexlaw02.EscapeBack'. -/
def escapeBackUptoCard : Claim7 := { stood := { row := escapeBackUptoRow, standIns := [], harness := (true, "9c543668fad85a20f5738e8409dab1e46e91141f455abb57d48580f5e02e8f3c"), looks := true }, kinds := [], alts := [], laidByText := true, laidKinds := [.data, .data, .data, .data, .sentinel, .sentinel, .pinned], laidTests := true, laidLooks := .later }
def EscapeBackUptoCardSaid : Prop := Claim7.holds Tryd.pinned (.plain (OpenSpec.upto escapeBackSpec)) escapeBackUptoCard

/-- THE SECOND FORM's CARD OF 'cardexlaw02.EscapeNumbers'. -/
def escapeNumbersUptoCard : Claim7 := { stood := { row := escapeNumbersUptoRow, standIns := [], harness := (true, "9c543668fad85a20f5738e8409dab1e46e91141f455abb57d48580f5e02e8f3c"), looks := true }, kinds := [], alts := [], laidByText := true, laidKinds := [.data, .data, .data, .data, .sentinel, .sentinel, .pinned], laidTests := true, laidLooks := .later }
def EscapeNumbersUptoCardSaid : Prop := Claim7.holds Tryd.pinned (.plain (OpenSpec.upto escapeNumbersSpec)) escapeNumbersUptoCard

/-- THE SECOND FORM's CARD OF 'cardexlaw02.EscapeRefuses'. -/
def escapeRefusesUptoCard : Claim7 := { stood := { row := escapeRefusesUptoRow, standIns := [], harness := (true, "9c543668fad85a20f5738e8409dab1e46e91141f455abb57d48580f5e02e8f3c"), looks := true }, kinds := [], alts := [], laidByText := true, laidKinds := [.data, .data, .data, .data, .sentinel, .sentinel, .pinned], laidTests := true, laidLooks := .later }
def EscapeRefusesUptoCardSaid : Prop := Claim7.holds Tryd.pinned (.plain (OpenSpec.upto escapeRefusesSpec)) escapeRefusesUptoCard

/-- THE SECOND FORM's CARD OF 'cardexlaw02.EscapeJoins'. -/
def escapeJoinsUptoCard : Claim7 := { stood := { row := escapeJoinsUptoRow, standIns := [], harness := (true, "9c543668fad85a20f5738e8409dab1e46e91141f455abb57d48580f5e02e8f3c"), looks := true }, kinds := [], alts := [], laidByText := true, laidKinds := [.data, .data, .data, .data, .sentinel, .sentinel, .pinned], laidTests := true, laidLooks := .later }
def EscapeJoinsUptoCardSaid : Prop := Claim7.holds Tryd.pinned (.plain (OpenSpec.upto escapeJoinsSpec)) escapeJoinsUptoCard

/-- THE SECOND FORM's CARD OF 'cardexlaw08.TokenTexts'. -/
def tokenTextsUptoCard : Claim7 := { stood := { row := tokenTextsUptoRow, standIns := [], harness := (true, "9c543668fad85a20f5738e8409dab1e46e91141f455abb57d48580f5e02e8f3c"), looks := true }, kinds := [], alts := [], laidByText := true, laidKinds := [.data, .data, .data, .data, .sentinel, .sentinel, .pinned], laidTests := true, laidLooks := .later }
def TokenTextsUptoCardSaid : Prop := Claim7.holds Tryd.pinned (.plain (OpenSpec.upto tokenTextsSpec)) tokenTextsUptoCard

/-- THE SECOND FORM's CARD OF 'cardexlaw08.TokenPlaces'. -/
def tokenPlacesUptoCard : Claim7 := { stood := { row := tokenPlacesUptoRow, standIns := [], harness := (true, "9c543668fad85a20f5738e8409dab1e46e91141f455abb57d48580f5e02e8f3c"), looks := true }, kinds := [], alts := [], laidByText := true, laidKinds := [.data, .data, .data, .data, .sentinel, .sentinel, .pinned], laidTests := true, laidLooks := .later }
def TokenPlacesUptoCardSaid : Prop := Claim7.holds Tryd.pinned (.plain (OpenSpec.upto tokenPlacesSpec)) tokenPlacesUptoCard

/-- THE SECOND FORM's CARD OF 'cardexlaw08.TokenRefuses'. -/
def tokenRefusesUptoCard : Claim7 := { stood := { row := tokenRefusesUptoRow, standIns := [], harness := (true, "9c543668fad85a20f5738e8409dab1e46e91141f455abb57d48580f5e02e8f3c"), looks := true }, kinds := [], alts := [], laidByText := true, laidKinds := [.data, .data, .data, .data, .sentinel, .sentinel, .pinned], laidTests := true, laidLooks := .later }
def TokenRefusesUptoCardSaid : Prop := Claim7.holds Tryd.pinned (.plain (OpenSpec.upto tokenRefusesSpec)) tokenRefusesUptoCard

/-- THE SECOND FORM's CARD OF 'cardexlaw08.TokenJoins'. -/
def tokenJoinsUptoCard : Claim7 := { stood := { row := tokenJoinsUptoRow, standIns := [], harness := (true, "9c543668fad85a20f5738e8409dab1e46e91141f455abb57d48580f5e02e8f3c"), looks := true }, kinds := [], alts := [], laidByText := true, laidKinds := [.data, .data, .data, .data, .sentinel, .sentinel, .pinned], laidTests := true, laidLooks := .later }
def TokenJoinsUptoCardSaid : Prop := Claim7.holds Tryd.pinned (.plain (OpenSpec.upto tokenJoinsSpec)) tokenJoinsUptoCard
end Rows
end Go.Proofs.YtjijbncheikagaaDoor
