/-
  DERIVED. GIVEN WITH THE SEED: THE CARDS: each row of YtgkfgclebdikgaaGreatDoorRows.lean that lists a variable, with what it lists TIED to the program's text (the seventh form; the later family's looks); each row that meets fmt, with fmt's text TOLD by the authors' own Lean function (tested against real Go, not proved from fmt's source: count such statements apart). THE CARD IS WHAT COUNTS. Prove the row's statement (the work); the ties are given (YtgkfgclebdikgaaGreatDoorTie.lean); close each card by the builder's one call (the guide's Derived/Test/ToyasCard.lean, 'card_holds'). Laid BY PROGRAM, IN A SANDBOX (cutbox-door.mjs). By AI agents, Wed Nov 11 2026. No macro, syntax, notation, axiom, sorry.
-/
import Derived.Test.YtgkfgclebdikgaaGreatDoorRows
import GoSem.ClaimSeven
namespace Go.Proofs.YtgkfgclebdikgaaGreatDoor
namespace Rows

/-- THE TIED CARD OF 'spinneylaw14.ForestProves'. -/
def forestProvesCard : Claim7 := { stood := { row := forestProvesRow, standIns := [], harness := (true, "604235e28a8d4d877f8647c924e842dd05ad90921e4fe3384b0d7f063dd72683"), looks := true }, kinds := [], alts := [], laidByText := true, laidKinds := [.data, .data], laidTests := true, laidLooks := .later }
def ForestProvesCardSaid : Prop := Claim7.holds Tryz.pinned (.plain (OpenSpec.ofChange forestProvesSpec)) forestProvesCard

/-- THE TIED CARD OF 'spinneylaw14.ForestUndo'. -/
def forestUndoCard : Claim7 := { stood := { row := forestUndoRow, standIns := [], harness := (true, "604235e28a8d4d877f8647c924e842dd05ad90921e4fe3384b0d7f063dd72683"), looks := true }, kinds := [], alts := [], laidByText := true, laidKinds := [.data, .data], laidTests := true, laidLooks := .later }
def ForestUndoCardSaid : Prop := Claim7.holds Tryz.pinned (.plain (OpenSpec.ofChange forestUndoSpec)) forestUndoCard

/-- THE TIED CARD OF 'spinneylaw14.ForestMoves'. -/
def forestMovesCard : Claim7 := { stood := { row := forestMovesRow, standIns := [], harness := (true, "604235e28a8d4d877f8647c924e842dd05ad90921e4fe3384b0d7f063dd72683"), looks := true }, kinds := [], alts := [], laidByText := true, laidKinds := [.data, .data], laidTests := true, laidLooks := .later }
def ForestMovesCardSaid : Prop := Claim7.holds Tryz.pinned (.plain (OpenSpec.ofChange forestMovesSpec)) forestMovesCard

/-- THE TIED CARD OF 'spinneylaw14.ForestKnown'. -/
def forestKnownCard : Claim7 := { stood := { row := forestKnownRow, standIns := [], harness := (true, "604235e28a8d4d877f8647c924e842dd05ad90921e4fe3384b0d7f063dd72683"), looks := true }, kinds := [], alts := [], laidByText := true, laidKinds := [.data, .data], laidTests := true, laidLooks := .later }
def ForestKnownCardSaid : Prop := Claim7.holds Tryz.pinned (.plain (OpenSpec.ofChange forestKnownSpec)) forestKnownCard

/-- THE SECOND FORM's CARD OF 'spinneylaw14.ForestProves'. -/
def forestProvesUptoCard : Claim7 := { stood := { row := forestProvesUptoRow, standIns := [], harness := (true, "604235e28a8d4d877f8647c924e842dd05ad90921e4fe3384b0d7f063dd72683"), looks := true }, kinds := [], alts := [], laidByText := true, laidKinds := [.data, .data], laidTests := true, laidLooks := .later }
def ForestProvesUptoCardSaid : Prop := Claim7.holds Tryz.pinned (.plain (OpenSpec.upto forestProvesSpec)) forestProvesUptoCard

/-- THE SECOND FORM's CARD OF 'spinneylaw14.ForestUndo'. -/
def forestUndoUptoCard : Claim7 := { stood := { row := forestUndoUptoRow, standIns := [], harness := (true, "604235e28a8d4d877f8647c924e842dd05ad90921e4fe3384b0d7f063dd72683"), looks := true }, kinds := [], alts := [], laidByText := true, laidKinds := [.data, .data], laidTests := true, laidLooks := .later }
def ForestUndoUptoCardSaid : Prop := Claim7.holds Tryz.pinned (.plain (OpenSpec.upto forestUndoSpec)) forestUndoUptoCard

/-- THE SECOND FORM's CARD OF 'spinneylaw14.ForestMoves'. -/
def forestMovesUptoCard : Claim7 := { stood := { row := forestMovesUptoRow, standIns := [], harness := (true, "604235e28a8d4d877f8647c924e842dd05ad90921e4fe3384b0d7f063dd72683"), looks := true }, kinds := [], alts := [], laidByText := true, laidKinds := [.data, .data], laidTests := true, laidLooks := .later }
def ForestMovesUptoCardSaid : Prop := Claim7.holds Tryz.pinned (.plain (OpenSpec.upto forestMovesSpec)) forestMovesUptoCard

/-- THE SECOND FORM's CARD OF 'spinneylaw14.ForestKnown'. -/
def forestKnownUptoCard : Claim7 := { stood := { row := forestKnownUptoRow, standIns := [], harness := (true, "604235e28a8d4d877f8647c924e842dd05ad90921e4fe3384b0d7f063dd72683"), looks := true }, kinds := [], alts := [], laidByText := true, laidKinds := [.data, .data], laidTests := true, laidLooks := .later }
def ForestKnownUptoCardSaid : Prop := Claim7.holds Tryz.pinned (.plain (OpenSpec.upto forestKnownSpec)) forestKnownUptoCard
end Rows
end Go.Proofs.YtgkfgclebdikgaaGreatDoor
