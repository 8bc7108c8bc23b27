/-
  DERIVED. GIVEN WITH THE SEED: THE CARDS: each row of YtmhfjeekhkoikaaGreatDoorRows.lean that lists a variable, with what it lists TIED to the program's text (the seventh form; the later family's looks); each row that meets fmt, with fmt's text TOLD by the authors' own Lean function (tested against real Go, not proved from fmt's source: count such statements apart). THE CARD IS WHAT COUNTS. Prove the row's statement (the work); the ties are given (YtmhfjeekhkoikaaGreatDoorTie.lean); close each card by the builder's one call (the guide's Derived/Test/ToyasCard.lean, 'card_holds'). Laid BY PROGRAM, IN A SANDBOX (cutbox-door.mjs). By AI agents, Wed Nov 11 2026. No macro, syntax, notation, axiom, sorry.
-/
import Derived.Test.YtmhfjeekhkoikaaGreatDoorRows
import GoSem.ClaimSeven
namespace Go.Proofs.YtmhfjeekhkoikaaGreatDoor
namespace Rows

/-- THE TIED CARD OF 'cardexlaw07.JidTells'. -/
def jidTellsCard : Claim7 := { stood := { row := jidTellsRow, standIns := [], harness := (true, "6acfa2dd041f4b0b04e44e146efe586ecd4a86c6d3c3fb66512d4723fc99cecd"), looks := false }, kinds := [], alts := [], laidByText := true, laidKinds := [.data, .pinned], laidTests := true, laidLooks := .later }
def JidTellsCardSaid : Prop := Claim7.holds Tryz.pinned (.plain (OpenSpec.ofChange jidTellsSpec)) jidTellsCard

/-- THE SECOND FORM's CARD OF 'cardexlaw07.JidTells'. -/
def jidTellsUptoCard : Claim7 := { stood := { row := jidTellsUptoRow, standIns := [], harness := (true, "6acfa2dd041f4b0b04e44e146efe586ecd4a86c6d3c3fb66512d4723fc99cecd"), looks := false }, kinds := [], alts := [], laidByText := true, laidKinds := [.data, .pinned], laidTests := true, laidLooks := .later }
def JidTellsUptoCardSaid : Prop := Claim7.holds Tryz.pinned (.plain (OpenSpec.upto jidTellsSpec)) jidTellsUptoCard
end Rows
end Go.Proofs.YtmhfjeekhkoikaaGreatDoor
