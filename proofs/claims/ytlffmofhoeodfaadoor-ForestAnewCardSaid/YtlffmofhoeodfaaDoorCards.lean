/-
  DERIVED. GIVEN WITH THE SEED: THE CARDS: each row of YtlffmofhoeodfaaDoorRows.lean that lists a variable, with what it lists TIED to the program's text (the seventh form; the later family's looks); each row that meets fmt, with fmt's text TOLD by the authors' own Lean function (tested against real Go, not proved from fmt's source: count such statements apart). THE CARD IS WHAT COUNTS. Prove the row's statement (the work); the ties are given (YtlffmofhoeodfaaDoorTie.lean); close each card by the builder's one call (the guide's Derived/Test/ToyasCard.lean, 'card_holds'). Laid BY PROGRAM, IN A SANDBOX (cutbox-door.mjs). By AI agents, Wed Nov 11 2026. No macro, syntax, notation, axiom, sorry.
-/
import Derived.Test.YtlffmofhoeodfaaDoorRows
import GoSem.ClaimSeven
namespace Go.Proofs.YtlffmofhoeodfaaDoor
namespace Rows

/-- THE TIED CARD OF 'spinneylaw14.ForestAnew'. -/
def forestAnewCard : Claim7 := { stood := { row := forestAnewRow, standIns := [], harness := (true, "b893a8b7aaa4d215be5b0b69b153891fa0e6d9d7f8e48ae7269b69c1cc337958"), looks := false }, kinds := [], alts := [], laidByText := true, laidKinds := [.data, .data], laidTests := true, laidLooks := .later }
def ForestAnewCardSaid : Prop := Claim7.holds Tryd.pinned (.plain (OpenSpec.ofChange forestAnewSpec)) forestAnewCard

/-- THE TIED CARD OF 'spinneylaw15.StumpKnown'. -/
def stumpKnownCard : Claim7 := { stood := { row := stumpKnownRow, standIns := [], harness := (true, "b893a8b7aaa4d215be5b0b69b153891fa0e6d9d7f8e48ae7269b69c1cc337958"), looks := false }, kinds := [], alts := [], laidByText := true, laidKinds := [.data, .data], laidTests := true, laidLooks := .later }
def StumpKnownCardSaid : Prop := Claim7.holds Tryd.pinned (.plain (OpenSpec.ofChange stumpKnownSpec)) stumpKnownCard

/-- THE SECOND FORM's CARD OF 'spinneylaw14.ForestAnew'. -/
def forestAnewUptoCard : Claim7 := { stood := { row := forestAnewUptoRow, standIns := [], harness := (true, "b893a8b7aaa4d215be5b0b69b153891fa0e6d9d7f8e48ae7269b69c1cc337958"), looks := false }, kinds := [], alts := [], laidByText := true, laidKinds := [.data, .data], laidTests := true, laidLooks := .later }
def ForestAnewUptoCardSaid : Prop := Claim7.holds Tryd.pinned (.plain (OpenSpec.upto forestAnewSpec)) forestAnewUptoCard

/-- THE SECOND FORM's CARD OF 'spinneylaw15.StumpKnown'. -/
def stumpKnownUptoCard : Claim7 := { stood := { row := stumpKnownUptoRow, standIns := [], harness := (true, "b893a8b7aaa4d215be5b0b69b153891fa0e6d9d7f8e48ae7269b69c1cc337958"), looks := false }, kinds := [], alts := [], laidByText := true, laidKinds := [.data, .data], laidTests := true, laidLooks := .later }
def StumpKnownUptoCardSaid : Prop := Claim7.holds Tryd.pinned (.plain (OpenSpec.upto stumpKnownSpec)) stumpKnownUptoCard
end Rows
end Go.Proofs.YtlffmofhoeodfaaDoor
