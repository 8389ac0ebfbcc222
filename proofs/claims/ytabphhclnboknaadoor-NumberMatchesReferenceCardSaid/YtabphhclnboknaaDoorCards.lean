/-
  DERIVED. GIVEN WITH THE SEED: THE CARDS: each row of YtabphhclnboknaaDoorRows.lean that lists a variable, with what it lists TIED to the program's text (the seventh form; the later family's looks); each row that meets fmt, with fmt's text TOLD by the authors' own Lean function (tested against real Go, not proved from fmt's source: count such statements apart). THE CARD IS WHAT COUNTS. Prove the row's statement (the work); the ties are given (YtabphhclnboknaaDoorTie.lean); close each card by the builder's one call (the guide's Derived/Test/ToyasCard.lean, 'card_holds'). Laid BY PROGRAM, IN A SANDBOX (cutbox-door.mjs). By AI agents, Wed Nov 11 2026. No macro, syntax, notation, axiom, sorry.
-/
import Derived.Test.YtabphhclnboknaaDoorRows
import GoSem.ClaimSeven
namespace Go.Proofs.YtabphhclnboknaaDoor
namespace Rows

/-- THE TIED CARD OF 'gazetteerlaw22.NumberMatchesReference'. -/
def numberMatchesReferenceCard : Claim7 := { stood := { row := numberMatchesReferenceRow, standIns := [], harness := (true, "caac2797d1114e7dec94c868e37e600a9199e322c71ecd6962df872d3935e72a"), looks := true }, kinds := [], alts := [], laidByText := true, laidKinds := [.data, .data, .data, .data, .sentinel, .sentinel, .pinned], laidTests := true, laidLooks := .later }
def NumberMatchesReferenceCardSaid : Prop := Claim7.holds Tryd.pinned (.plain (OpenSpec.ofChange numberMatchesReferenceSpec)) numberMatchesReferenceCard

/-- THE TIED CARD OF 'gazetteerlaw22.NumberOrder'. -/
def numberOrderCard : Claim7 := { stood := { row := numberOrderRow, standIns := [], harness := (true, "caac2797d1114e7dec94c868e37e600a9199e322c71ecd6962df872d3935e72a"), looks := true }, kinds := [], alts := [], laidByText := true, laidKinds := [.data, .data, .data, .data, .sentinel, .sentinel, .pinned], laidTests := true, laidLooks := .later }
def NumberOrderCardSaid : Prop := Claim7.holds Tryd.pinned (.plain (OpenSpec.ofChange numberOrderSpec)) numberOrderCard

/-- THE TIED CARD OF 'gazetteerlaw22.NumberParts'. -/
def numberPartsCard : Claim7 := { stood := { row := numberPartsRow, standIns := [], harness := (true, "caac2797d1114e7dec94c868e37e600a9199e322c71ecd6962df872d3935e72a"), looks := true }, kinds := [], alts := [], laidByText := true, laidKinds := [.data, .data, .data, .data, .sentinel, .sentinel, .pinned], laidTests := true, laidLooks := .later }
def NumberPartsCardSaid : Prop := Claim7.holds Tryd.pinned (.plain (OpenSpec.ofChange numberPartsSpec)) numberPartsCard

/-- THE TIED CARD OF 'gazetteerlaw22.NumberTexts'. -/
def numberTextsCard : Claim7 := { stood := { row := numberTextsRow, standIns := [], harness := (true, "caac2797d1114e7dec94c868e37e600a9199e322c71ecd6962df872d3935e72a"), looks := true }, kinds := [], alts := [], laidByText := true, laidKinds := [.data, .data, .data, .data, .sentinel, .sentinel, .pinned], laidTests := true, laidLooks := .later }
def NumberTextsCardSaid : Prop := Claim7.holds Tryd.pinned (.plain (OpenSpec.ofChange numberTextsSpec)) numberTextsCard

/-- THE TIED CARD OF 'gazetteerlaw22.NumberBetween'. -/
def numberBetweenCard : Claim7 := { stood := { row := numberBetweenRow, standIns := [], harness := (true, "caac2797d1114e7dec94c868e37e600a9199e322c71ecd6962df872d3935e72a"), looks := true }, kinds := [], alts := [], laidByText := true, laidKinds := [.data, .data, .data, .data, .sentinel, .sentinel, .pinned], laidTests := true, laidLooks := .later }
def NumberBetweenCardSaid : Prop := Claim7.holds Tryd.pinned (.plain (OpenSpec.ofChange numberBetweenSpec)) numberBetweenCard

/-- THE TIED CARD OF 'gazetteerlaw22.NumberRoom'. -/
def numberRoomCard : Claim7 := { stood := { row := numberRoomRow, standIns := [], harness := (true, "caac2797d1114e7dec94c868e37e600a9199e322c71ecd6962df872d3935e72a"), looks := true }, kinds := [], alts := [], laidByText := true, laidKinds := [.data, .data, .data, .data, .sentinel, .sentinel, .pinned], laidTests := true, laidLooks := .later }
def NumberRoomCardSaid : Prop := Claim7.holds Tryd.pinned (.plain (OpenSpec.ofChange numberRoomSpec)) numberRoomCard

/-- THE TIED CARD OF 'gazetteerlaw22.NumberSides'. -/
def numberSidesCard : Claim7 := { stood := { row := numberSidesRow, standIns := [], harness := (true, "caac2797d1114e7dec94c868e37e600a9199e322c71ecd6962df872d3935e72a"), looks := true }, kinds := [], alts := [], laidByText := true, laidKinds := [.data, .data, .data, .data, .sentinel, .sentinel, .pinned], laidTests := true, laidLooks := .later }
def NumberSidesCardSaid : Prop := Claim7.holds Tryd.pinned (.plain (OpenSpec.ofChange numberSidesSpec)) numberSidesCard

/-- THE SECOND FORM's CARD OF 'gazetteerlaw22.NumberMatchesReference'. -/
def numberMatchesReferenceUptoCard : Claim7 := { stood := { row := numberMatchesReferenceUptoRow, standIns := [], harness := (true, "caac2797d1114e7dec94c868e37e600a9199e322c71ecd6962df872d3935e72a"), looks := true }, kinds := [], alts := [], laidByText := true, laidKinds := [.data, .data, .data, .data, .sentinel, .sentinel, .pinned], laidTests := true, laidLooks := .later }
def NumberMatchesReferenceUptoCardSaid : Prop := Claim7.holds Tryd.pinned (.plain (OpenSpec.upto numberMatchesReferenceSpec)) numberMatchesReferenceUptoCard

/-- THE SECOND FORM's CARD OF 'gazetteerlaw22.NumberOrder'. -/
def numberOrderUptoCard : Claim7 := { stood := { row := numberOrderUptoRow, standIns := [], harness := (true, "caac2797d1114e7dec94c868e37e600a9199e322c71ecd6962df872d3935e72a"), looks := true }, kinds := [], alts := [], laidByText := true, laidKinds := [.data, .data, .data, .data, .sentinel, .sentinel, .pinned], laidTests := true, laidLooks := .later }
def NumberOrderUptoCardSaid : Prop := Claim7.holds Tryd.pinned (.plain (OpenSpec.upto numberOrderSpec)) numberOrderUptoCard

/-- THE SECOND FORM's CARD OF 'gazetteerlaw22.NumberParts'. -/
def numberPartsUptoCard : Claim7 := { stood := { row := numberPartsUptoRow, standIns := [], harness := (true, "caac2797d1114e7dec94c868e37e600a9199e322c71ecd6962df872d3935e72a"), looks := true }, kinds := [], alts := [], laidByText := true, laidKinds := [.data, .data, .data, .data, .sentinel, .sentinel, .pinned], laidTests := true, laidLooks := .later }
def NumberPartsUptoCardSaid : Prop := Claim7.holds Tryd.pinned (.plain (OpenSpec.upto numberPartsSpec)) numberPartsUptoCard

/-- THE SECOND FORM's CARD OF 'gazetteerlaw22.NumberTexts'. -/
def numberTextsUptoCard : Claim7 := { stood := { row := numberTextsUptoRow, standIns := [], harness := (true, "caac2797d1114e7dec94c868e37e600a9199e322c71ecd6962df872d3935e72a"), looks := true }, kinds := [], alts := [], laidByText := true, laidKinds := [.data, .data, .data, .data, .sentinel, .sentinel, .pinned], laidTests := true, laidLooks := .later }
def NumberTextsUptoCardSaid : Prop := Claim7.holds Tryd.pinned (.plain (OpenSpec.upto numberTextsSpec)) numberTextsUptoCard

/-- THE SECOND FORM's CARD OF 'gazetteerlaw22.NumberBetween'. -/
def numberBetweenUptoCard : Claim7 := { stood := { row := numberBetweenUptoRow, standIns := [], harness := (true, "caac2797d1114e7dec94c868e37e600a9199e322c71ecd6962df872d3935e72a"), looks := true }, kinds := [], alts := [], laidByText := true, laidKinds := [.data, .data, .data, .data, .sentinel, .sentinel, .pinned], laidTests := true, laidLooks := .later }
def NumberBetweenUptoCardSaid : Prop := Claim7.holds Tryd.pinned (.plain (OpenSpec.upto numberBetweenSpec)) numberBetweenUptoCard

/-- THE SECOND FORM's CARD OF 'gazetteerlaw22.NumberRoom'. -/
def numberRoomUptoCard : Claim7 := { stood := { row := numberRoomUptoRow, standIns := [], harness := (true, "caac2797d1114e7dec94c868e37e600a9199e322c71ecd6962df872d3935e72a"), looks := true }, kinds := [], alts := [], laidByText := true, laidKinds := [.data, .data, .data, .data, .sentinel, .sentinel, .pinned], laidTests := true, laidLooks := .later }
def NumberRoomUptoCardSaid : Prop := Claim7.holds Tryd.pinned (.plain (OpenSpec.upto numberRoomSpec)) numberRoomUptoCard

/-- THE SECOND FORM's CARD OF 'gazetteerlaw22.NumberSides'. -/
def numberSidesUptoCard : Claim7 := { stood := { row := numberSidesUptoRow, standIns := [], harness := (true, "caac2797d1114e7dec94c868e37e600a9199e322c71ecd6962df872d3935e72a"), looks := true }, kinds := [], alts := [], laidByText := true, laidKinds := [.data, .data, .data, .data, .sentinel, .sentinel, .pinned], laidTests := true, laidLooks := .later }
def NumberSidesUptoCardSaid : Prop := Claim7.holds Tryd.pinned (.plain (OpenSpec.upto numberSidesSpec)) numberSidesUptoCard
end Rows
end Go.Proofs.YtabphhclnboknaaDoor
