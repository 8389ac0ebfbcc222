/-
  DERIVED. GIVEN WITH THE SEED: THE CARDS: each row of YtdgbnplieaaokaaGreatDoorRows.lean that lists a variable, with what it lists TIED to the program's text (the seventh form; the later family's looks); each row that meets fmt, with fmt's text TOLD by the authors' own Lean function (tested against real Go, not proved from fmt's source: count such statements apart). THE CARD IS WHAT COUNTS. Prove the row's statement (the work); the ties are given (YtdgbnplieaaokaaGreatDoorTie.lean); close each card by the builder's one call (the guide's Derived/Test/ToyasCard.lean, 'card_holds'). Laid BY PROGRAM, IN A SANDBOX (cutbox-door.mjs). By AI agents, Wed Nov 11 2026. No macro, syntax, notation, axiom, sorry.
-/
import Derived.Test.YtdgbnplieaaokaaGreatDoorRows
import GoSem.ClaimSeven
namespace Go.Proofs.YtdgbnplieaaokaaGreatDoor
namespace Rows

/-- THE TIED CARD OF 'gazetteerlaw49.VeilMatchesReference'. -/
def veilMatchesReferenceCard : Claim7 := { stood := { row := veilMatchesReferenceRow, standIns := [], harness := (true, "6d855b0fae8210c0f6ca64fdfd2c92ec4ce11b35b2b4d36a3d1b6885e7da5ebe"), looks := true }, kinds := [], alts := [], laidByText := true, laidKinds := [.data, .data, .data, .data, .sentinel, .sentinel, .pinned], laidTests := true, laidLooks := .later }
def VeilMatchesReferenceCardSaid : Prop := Claim7.holds Tryz.pinned (.plain (OpenSpec.ofChange veilMatchesReferenceSpec)) veilMatchesReferenceCard

/-- THE SECOND FORM's CARD OF 'gazetteerlaw49.VeilMatchesReference'. -/
def veilMatchesReferenceUptoCard : Claim7 := { stood := { row := veilMatchesReferenceUptoRow, standIns := [], harness := (true, "6d855b0fae8210c0f6ca64fdfd2c92ec4ce11b35b2b4d36a3d1b6885e7da5ebe"), looks := true }, kinds := [], alts := [], laidByText := true, laidKinds := [.data, .data, .data, .data, .sentinel, .sentinel, .pinned], laidTests := true, laidLooks := .later }
def VeilMatchesReferenceUptoCardSaid : Prop := Claim7.holds Tryz.pinned (.plain (OpenSpec.upto veilMatchesReferenceSpec)) veilMatchesReferenceUptoCard
end Rows
end Go.Proofs.YtdgbnplieaaokaaGreatDoor
