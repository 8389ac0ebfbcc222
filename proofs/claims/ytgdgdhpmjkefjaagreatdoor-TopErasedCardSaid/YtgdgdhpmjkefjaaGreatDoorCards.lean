/-
  DERIVED. GIVEN WITH THE SEED: THE CARDS: each row of YtgdgdhpmjkefjaaGreatDoorRows.lean that lists a variable, with what it lists TIED to the program's text (the seventh form; the later family's looks); each row that meets fmt, with fmt's text TOLD by the authors' own Lean function (tested against real Go, not proved from fmt's source: count such statements apart). THE CARD IS WHAT COUNTS. Prove the row's statement (the work); the ties are given (YtgdgdhpmjkefjaaGreatDoorTie.lean); close each card by the builder's one call (the guide's Derived/Test/ToyasCard.lean, 'card_holds'). Laid BY PROGRAM, IN A SANDBOX (cutbox-door.mjs). By AI agents, Wed Nov 11 2026. No macro, syntax, notation, axiom, sorry.
-/
import Derived.Test.YtgdgdhpmjkefjaaGreatDoorRows
import GoSem.ClaimSeven
namespace Go.Proofs.YtgdgdhpmjkefjaaGreatDoor
namespace Rows

/-- THE TIED CARD OF 'gazetteertop.TopErased'. -/
def topErasedCard : Claim7 := { stood := { row := topErasedRow, standIns := [], harness := (true, "d8642636f04206d0a940e37f9fcf78ad52f26ea0c1c18692f368f44a240ed5d0"), looks := true }, kinds := [], alts := [], laidByText := true, laidKinds := [.data, .data, .data, .data, .sentinel, .sentinel, .data, .pinned], laidTests := true, laidLooks := .later }
def TopErasedCardSaid : Prop := Claim7.holds Tryz.pinned (.plain (OpenSpec.ofChange topErasedSpec)) topErasedCard

/-- THE SECOND FORM's CARD OF 'gazetteertop.TopErased'. -/
def topErasedUptoCard : Claim7 := { stood := { row := topErasedUptoRow, standIns := [], harness := (true, "d8642636f04206d0a940e37f9fcf78ad52f26ea0c1c18692f368f44a240ed5d0"), looks := true }, kinds := [], alts := [], laidByText := true, laidKinds := [.data, .data, .data, .data, .sentinel, .sentinel, .data, .pinned], laidTests := true, laidLooks := .later }
def TopErasedUptoCardSaid : Prop := Claim7.holds Tryz.pinned (.plain (OpenSpec.upto topErasedSpec)) topErasedUptoCard
end Rows
end Go.Proofs.YtgdgdhpmjkefjaaGreatDoor
