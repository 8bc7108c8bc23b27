/-
  DERIVED. GIVEN WITH THE SEED: THE CARDS: each row of YtaekklpphlcngaaGreatDoorRows.lean that lists a variable, with what it lists TIED to the program's text (the seventh form; the later family's looks); each row that meets fmt, with fmt's text TOLD by the authors' own Lean function (tested against real Go, not proved from fmt's source: count such statements apart). THE CARD IS WHAT COUNTS. Prove the row's statement (the work); the ties are given (YtaekklpphlcngaaGreatDoorTie.lean); close each card by the builder's one call (the guide's Derived/Test/ToyasCard.lean, 'card_holds'). Laid BY PROGRAM, IN A SANDBOX (cutbox-door.mjs). By AI agents, Wed Nov 11 2026. No macro, syntax, notation, axiom, sorry.
-/
import Derived.Test.YtaekklpphlcngaaGreatDoorRows
import GoSem.ClaimSeven
namespace Go.Proofs.YtaekklpphlcngaaGreatDoor
namespace Rows

/-- THE TIED CARD OF 'cardexlaw14.ItemModes'. -/
def itemModesCard : Claim7 := { stood := { row := itemModesRow, standIns := [], harness := (true, "d05b7520aab17b25d561563c7dcc3d791290e5e8ed62b7c53d04c119eedaf0fd"), looks := false }, kinds := [], alts := [], laidByText := true, laidKinds := [.data, .pinned], laidTests := true, laidLooks := .later }
def ItemModesCardSaid : Prop := Claim7.holds Tryz.pinned (.plain (OpenSpec.ofChange itemModesSpec)) itemModesCard

/-- THE TIED CARD OF 'cardexlaw14.ItemNeeds'. -/
def itemNeedsCard : Claim7 := { stood := { row := itemNeedsRow, standIns := [], harness := (true, "d05b7520aab17b25d561563c7dcc3d791290e5e8ed62b7c53d04c119eedaf0fd"), looks := false }, kinds := [], alts := [], laidByText := true, laidKinds := [.data, .pinned], laidTests := true, laidLooks := .later }
def ItemNeedsCardSaid : Prop := Claim7.holds Tryz.pinned (.plain (OpenSpec.ofChange itemNeedsSpec)) itemNeedsCard

/-- THE SECOND FORM's CARD OF 'cardexlaw14.ItemModes'. -/
def itemModesUptoCard : Claim7 := { stood := { row := itemModesUptoRow, standIns := [], harness := (true, "d05b7520aab17b25d561563c7dcc3d791290e5e8ed62b7c53d04c119eedaf0fd"), looks := false }, kinds := [], alts := [], laidByText := true, laidKinds := [.data, .pinned], laidTests := true, laidLooks := .later }
def ItemModesUptoCardSaid : Prop := Claim7.holds Tryz.pinned (.plain (OpenSpec.upto itemModesSpec)) itemModesUptoCard

/-- THE SECOND FORM's CARD OF 'cardexlaw14.ItemNeeds'. -/
def itemNeedsUptoCard : Claim7 := { stood := { row := itemNeedsUptoRow, standIns := [], harness := (true, "d05b7520aab17b25d561563c7dcc3d791290e5e8ed62b7c53d04c119eedaf0fd"), looks := false }, kinds := [], alts := [], laidByText := true, laidKinds := [.data, .pinned], laidTests := true, laidLooks := .later }
def ItemNeedsUptoCardSaid : Prop := Claim7.holds Tryz.pinned (.plain (OpenSpec.upto itemNeedsSpec)) itemNeedsUptoCard
end Rows
end Go.Proofs.YtaekklpphlcngaaGreatDoor
