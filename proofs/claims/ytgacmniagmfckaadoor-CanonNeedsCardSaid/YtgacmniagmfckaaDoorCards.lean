/-
  DERIVED. GIVEN WITH THE SEED: THE CARDS: each row of YtgacmniagmfckaaDoorRows.lean that lists a variable, with what it lists TIED to the program's text (the seventh form; the later family's looks); each row that meets fmt, with fmt's text TOLD by the authors' own Lean function (tested against real Go, not proved from fmt's source: count such statements apart). THE CARD IS WHAT COUNTS. Prove the row's statement (the work); the ties are given (YtgacmniagmfckaaDoorTie.lean); close each card by the builder's one call (the guide's Derived/Test/ToyasCard.lean, 'card_holds'). Laid BY PROGRAM, IN A SANDBOX (cutbox-door.mjs). By AI agents, Wed Nov 11 2026. No macro, syntax, notation, axiom, sorry.
-/
import Derived.Test.YtgacmniagmfckaaDoorRows
import GoSem.ClaimSeven
namespace Go.Proofs.YtgacmniagmfckaaDoor
namespace Rows

/-- THE TIED CARD OF 'cardexlaw10.CanonTells'. -/
def canonTellsCard : Claim7 := { stood := { row := canonTellsRow, standIns := [], harness := (true, "351ef25a1f6c6fc1a68cdfacee32f162204a957b5c073ae1a2e0be819c4d7bda"), looks := false }, kinds := [], alts := [], laidByText := true, laidKinds := [.data, .pinned], laidTests := true, laidLooks := .later }
def CanonTellsCardSaid : Prop := Claim7.holds Tryd.pinned (.plain (OpenSpec.ofChange canonTellsSpec)) canonTellsCard

/-- THE TIED CARD OF 'cardexlaw10.CanonNeeds'. -/
def canonNeedsCard : Claim7 := { stood := { row := canonNeedsRow, standIns := [], harness := (true, "351ef25a1f6c6fc1a68cdfacee32f162204a957b5c073ae1a2e0be819c4d7bda"), looks := false }, kinds := [], alts := [], laidByText := true, laidKinds := [.data, .pinned], laidTests := true, laidLooks := .later }
def CanonNeedsCardSaid : Prop := Claim7.holds Tryd.pinned (.plain (OpenSpec.ofChange canonNeedsSpec)) canonNeedsCard

/-- THE TIED CARD OF 'cardexlaw10.CanonForms'. -/
def canonFormsCard : Claim7 := { stood := { row := canonFormsRow, standIns := [], harness := (true, "351ef25a1f6c6fc1a68cdfacee32f162204a957b5c073ae1a2e0be819c4d7bda"), looks := false }, kinds := [], alts := [], laidByText := true, laidKinds := [.data, .pinned], laidTests := true, laidLooks := .later }
def CanonFormsCardSaid : Prop := Claim7.holds Tryd.pinned (.plain (OpenSpec.ofChange canonFormsSpec)) canonFormsCard

/-- THE SECOND FORM's CARD OF 'cardexlaw10.CanonTells'. -/
def canonTellsUptoCard : Claim7 := { stood := { row := canonTellsUptoRow, standIns := [], harness := (true, "351ef25a1f6c6fc1a68cdfacee32f162204a957b5c073ae1a2e0be819c4d7bda"), looks := false }, kinds := [], alts := [], laidByText := true, laidKinds := [.data, .pinned], laidTests := true, laidLooks := .later }
def CanonTellsUptoCardSaid : Prop := Claim7.holds Tryd.pinned (.plain (OpenSpec.upto canonTellsSpec)) canonTellsUptoCard

/-- THE SECOND FORM's CARD OF 'cardexlaw10.CanonNeeds'. -/
def canonNeedsUptoCard : Claim7 := { stood := { row := canonNeedsUptoRow, standIns := [], harness := (true, "351ef25a1f6c6fc1a68cdfacee32f162204a957b5c073ae1a2e0be819c4d7bda"), looks := false }, kinds := [], alts := [], laidByText := true, laidKinds := [.data, .pinned], laidTests := true, laidLooks := .later }
def CanonNeedsUptoCardSaid : Prop := Claim7.holds Tryd.pinned (.plain (OpenSpec.upto canonNeedsSpec)) canonNeedsUptoCard

/-- THE SECOND FORM's CARD OF 'cardexlaw10.CanonForms'. -/
def canonFormsUptoCard : Claim7 := { stood := { row := canonFormsUptoRow, standIns := [], harness := (true, "351ef25a1f6c6fc1a68cdfacee32f162204a957b5c073ae1a2e0be819c4d7bda"), looks := false }, kinds := [], alts := [], laidByText := true, laidKinds := [.data, .pinned], laidTests := true, laidLooks := .later }
def CanonFormsUptoCardSaid : Prop := Claim7.holds Tryd.pinned (.plain (OpenSpec.upto canonFormsSpec)) canonFormsUptoCard
end Rows
end Go.Proofs.YtgacmniagmfckaaDoor
