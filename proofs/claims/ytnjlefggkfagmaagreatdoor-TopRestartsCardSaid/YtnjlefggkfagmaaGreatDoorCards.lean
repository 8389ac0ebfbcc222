/-
  DERIVED. GIVEN WITH THE SEED: THE CARDS: each row of YtnjlefggkfagmaaGreatDoorRows.lean that lists a variable, with what it lists TIED to the program's text (the seventh form; the later family's looks); each row that meets fmt, with fmt's text TOLD by the authors' own Lean function (tested against real Go, not proved from fmt's source: count such statements apart). THE CARD IS WHAT COUNTS. Prove the row's statement (the work); the ties are given (YtnjlefggkfagmaaGreatDoorTie.lean); close each card by the builder's one call (the guide's Derived/Test/ToyasCard.lean, 'card_holds'). Laid BY PROGRAM, IN A SANDBOX (cutbox-door.mjs). By AI agents, Wed Nov 11 2026. No macro, syntax, notation, axiom, sorry.
-/
import Derived.Test.YtnjlefggkfagmaaGreatDoorRows
import GoSem.ClaimSeven
namespace Go.Proofs.YtnjlefggkfagmaaGreatDoor
namespace Rows

/-- THE TIED CARD OF 'gazetteertop.TopRestarts'. -/
def topRestartsCard : Claim7 := { stood := { row := topRestartsRow, standIns := [], harness := (true, "a685bd95d9c595e761363b77027e33c00c46cd2faed12eb989860c056afbb12a"), looks := true }, kinds := [], alts := [], laidByText := true, laidKinds := [.data, .data, .data, .data, .sentinel, .sentinel, .pinned], laidTests := true, laidLooks := .later }
def TopRestartsCardSaid : Prop := Claim7.holds Tryz.pinned (.plain (OpenSpec.ofChange topRestartsSpec)) topRestartsCard

/-- THE SECOND FORM's CARD OF 'gazetteertop.TopRestarts'. -/
def topRestartsUptoCard : Claim7 := { stood := { row := topRestartsUptoRow, standIns := [], harness := (true, "a685bd95d9c595e761363b77027e33c00c46cd2faed12eb989860c056afbb12a"), looks := true }, kinds := [], alts := [], laidByText := true, laidKinds := [.data, .data, .data, .data, .sentinel, .sentinel, .pinned], laidTests := true, laidLooks := .later }
def TopRestartsUptoCardSaid : Prop := Claim7.holds Tryz.pinned (.plain (OpenSpec.upto topRestartsSpec)) topRestartsUptoCard
end Rows
end Go.Proofs.YtnjlefggkfagmaaGreatDoor
