/-
  DERIVED. GIVEN WITH THE SEED: THE CARDS: each row of YtmhfjeekhkoikaaDoorRows.lean that lists a variable, with what it lists TIED to the program's text (the seventh form; the later family's looks); each row that meets fmt, with fmt's text TOLD by the authors' own Lean function (tested against real Go, not proved from fmt's source: count such statements apart). THE CARD IS WHAT COUNTS. Prove the row's statement (the work); the ties are given (YtmhfjeekhkoikaaDoorTie.lean); close each card by the builder's one call (the guide's Derived/Test/ToyasCard.lean, 'card_holds'). Laid BY PROGRAM, IN A SANDBOX (cutbox-door.mjs). By AI agents, Wed Nov 11 2026. No macro, syntax, notation, axiom, sorry.
-/
import Derived.Test.YtmhfjeekhkoikaaDoorRows
import GoSem.ClaimSeven
namespace Go.Proofs.YtmhfjeekhkoikaaDoor
namespace Rows

/-- THE TIED CARD OF 'cardexlaw07.JidBack'. -/
def jidBackCard : Claim7 := { stood := { row := jidBackRow, standIns := [], harness := (true, "2fae7a8e9b37da6e4e8c44bc39422ede58b1b38ceacad5f2226e46cc82ee5d45"), looks := false }, kinds := [], alts := [], laidByText := true, laidKinds := [.data, .pinned], laidTests := true, laidLooks := .later }
def JidBackCardSaid : Prop := Claim7.holds Tryd.pinned (.plain (OpenSpec.ofChange jidBackSpec)) jidBackCard

/-- THE TIED CARD OF 'cardexlaw07.JidOrder'. -/
def jidOrderCard : Claim7 := { stood := { row := jidOrderRow, standIns := [], harness := (true, "2fae7a8e9b37da6e4e8c44bc39422ede58b1b38ceacad5f2226e46cc82ee5d45"), looks := false }, kinds := [], alts := [], laidByText := true, laidKinds := [.data, .pinned], laidTests := true, laidLooks := .later }
def JidOrderCardSaid : Prop := Claim7.holds Tryd.pinned (.plain (OpenSpec.ofChange jidOrderSpec)) jidOrderCard

/-- THE TIED CARD OF 'cardexlaw07.JidBounds'. -/
def jidBoundsCard : Claim7 := { stood := { row := jidBoundsRow, standIns := [], harness := (true, "2fae7a8e9b37da6e4e8c44bc39422ede58b1b38ceacad5f2226e46cc82ee5d45"), looks := false }, kinds := [], alts := [], laidByText := true, laidKinds := [.data, .pinned], laidTests := true, laidLooks := .later }
def JidBoundsCardSaid : Prop := Claim7.holds Tryd.pinned (.plain (OpenSpec.ofChange jidBoundsSpec)) jidBoundsCard

/-- THE TIED CARD OF 'cardexlaw07.JidParts'. -/
def jidPartsCard : Claim7 := { stood := { row := jidPartsRow, standIns := [], harness := (true, "2fae7a8e9b37da6e4e8c44bc39422ede58b1b38ceacad5f2226e46cc82ee5d45"), looks := false }, kinds := [], alts := [], laidByText := true, laidKinds := [.data, .pinned], laidTests := true, laidLooks := .later }
def JidPartsCardSaid : Prop := Claim7.holds Tryd.pinned (.plain (OpenSpec.ofChange jidPartsSpec)) jidPartsCard

/-- THE SECOND FORM's CARD OF 'cardexlaw07.JidBack'. -/
def jidBackUptoCard : Claim7 := { stood := { row := jidBackUptoRow, standIns := [], harness := (true, "2fae7a8e9b37da6e4e8c44bc39422ede58b1b38ceacad5f2226e46cc82ee5d45"), looks := false }, kinds := [], alts := [], laidByText := true, laidKinds := [.data, .pinned], laidTests := true, laidLooks := .later }
def JidBackUptoCardSaid : Prop := Claim7.holds Tryd.pinned (.plain (OpenSpec.upto jidBackSpec)) jidBackUptoCard

/-- THE SECOND FORM's CARD OF 'cardexlaw07.JidOrder'. -/
def jidOrderUptoCard : Claim7 := { stood := { row := jidOrderUptoRow, standIns := [], harness := (true, "2fae7a8e9b37da6e4e8c44bc39422ede58b1b38ceacad5f2226e46cc82ee5d45"), looks := false }, kinds := [], alts := [], laidByText := true, laidKinds := [.data, .pinned], laidTests := true, laidLooks := .later }
def JidOrderUptoCardSaid : Prop := Claim7.holds Tryd.pinned (.plain (OpenSpec.upto jidOrderSpec)) jidOrderUptoCard

/-- THE SECOND FORM's CARD OF 'cardexlaw07.JidBounds'. -/
def jidBoundsUptoCard : Claim7 := { stood := { row := jidBoundsUptoRow, standIns := [], harness := (true, "2fae7a8e9b37da6e4e8c44bc39422ede58b1b38ceacad5f2226e46cc82ee5d45"), looks := false }, kinds := [], alts := [], laidByText := true, laidKinds := [.data, .pinned], laidTests := true, laidLooks := .later }
def JidBoundsUptoCardSaid : Prop := Claim7.holds Tryd.pinned (.plain (OpenSpec.upto jidBoundsSpec)) jidBoundsUptoCard

/-- THE SECOND FORM's CARD OF 'cardexlaw07.JidParts'. -/
def jidPartsUptoCard : Claim7 := { stood := { row := jidPartsUptoRow, standIns := [], harness := (true, "2fae7a8e9b37da6e4e8c44bc39422ede58b1b38ceacad5f2226e46cc82ee5d45"), looks := false }, kinds := [], alts := [], laidByText := true, laidKinds := [.data, .pinned], laidTests := true, laidLooks := .later }
def JidPartsUptoCardSaid : Prop := Claim7.holds Tryd.pinned (.plain (OpenSpec.upto jidPartsSpec)) jidPartsUptoCard
end Rows
end Go.Proofs.YtmhfjeekhkoikaaDoor
