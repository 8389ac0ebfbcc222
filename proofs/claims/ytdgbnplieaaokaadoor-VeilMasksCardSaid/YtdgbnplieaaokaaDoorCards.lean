/-
  DERIVED. GIVEN WITH THE SEED: THE CARDS: each row of YtdgbnplieaaokaaDoorRows.lean that lists a variable, with what it lists TIED to the program's text (the seventh form; the later family's looks); each row that meets fmt, with fmt's text TOLD by the authors' own Lean function (tested against real Go, not proved from fmt's source: count such statements apart). THE CARD IS WHAT COUNTS. Prove the row's statement (the work); the ties are given (YtdgbnplieaaokaaDoorTie.lean); close each card by the builder's one call (the guide's Derived/Test/ToyasCard.lean, 'card_holds'). Laid BY PROGRAM, IN A SANDBOX (cutbox-door.mjs). By AI agents, Wed Nov 11 2026. No macro, syntax, notation, axiom, sorry.
-/
import Derived.Test.YtdgbnplieaaokaaDoorRows
import GoSem.ClaimSeven
namespace Go.Proofs.YtdgbnplieaaokaaDoor
namespace Rows

/-- THE TIED CARD OF 'gazetteerlaw49.VeilOpens'. -/
def veilOpensCard : Claim7 := { stood := { row := veilOpensRow, standIns := [], harness := (true, "6737b11e9a33f1e13dd40bd51ba45af3310dbdd17ff962d8fd8af22e8f1449ba"), looks := true }, kinds := [], alts := [], laidByText := true, laidKinds := [.data, .data, .data, .data, .sentinel, .sentinel, .pinned], laidTests := true, laidLooks := .later }
def VeilOpensCardSaid : Prop := Claim7.holds Tryd.pinned (.plain (OpenSpec.ofChange veilOpensSpec)) veilOpensCard

/-- THE TIED CARD OF 'gazetteerlaw49.VeilOtherKeys'. -/
def veilOtherKeysCard : Claim7 := { stood := { row := veilOtherKeysRow, standIns := [], harness := (true, "6737b11e9a33f1e13dd40bd51ba45af3310dbdd17ff962d8fd8af22e8f1449ba"), looks := true }, kinds := [], alts := [], laidByText := true, laidKinds := [.data, .data, .data, .data, .sentinel, .sentinel, .pinned], laidTests := true, laidLooks := .later }
def VeilOtherKeysCardSaid : Prop := Claim7.holds Tryd.pinned (.plain (OpenSpec.ofChange veilOtherKeysSpec)) veilOtherKeysCard

/-- THE TIED CARD OF 'gazetteerlaw49.VeilForged'. -/
def veilForgedCard : Claim7 := { stood := { row := veilForgedRow, standIns := [], harness := (true, "6737b11e9a33f1e13dd40bd51ba45af3310dbdd17ff962d8fd8af22e8f1449ba"), looks := true }, kinds := [], alts := [], laidByText := true, laidKinds := [.data, .data, .data, .data, .sentinel, .sentinel, .pinned], laidTests := true, laidLooks := .later }
def VeilForgedCardSaid : Prop := Claim7.holds Tryd.pinned (.plain (OpenSpec.ofChange veilForgedSpec)) veilForgedCard

/-- THE TIED CARD OF 'gazetteerlaw49.VeilForm'. -/
def veilFormCard : Claim7 := { stood := { row := veilFormRow, standIns := [], harness := (true, "6737b11e9a33f1e13dd40bd51ba45af3310dbdd17ff962d8fd8af22e8f1449ba"), looks := true }, kinds := [], alts := [], laidByText := true, laidKinds := [.data, .data, .data, .data, .sentinel, .sentinel, .pinned], laidTests := true, laidLooks := .later }
def VeilFormCardSaid : Prop := Claim7.holds Tryd.pinned (.plain (OpenSpec.ofChange veilFormSpec)) veilFormCard

/-- THE TIED CARD OF 'gazetteerlaw49.VeilMasks'. -/
def veilMasksCard : Claim7 := { stood := { row := veilMasksRow, standIns := [], harness := (true, "6737b11e9a33f1e13dd40bd51ba45af3310dbdd17ff962d8fd8af22e8f1449ba"), looks := true }, kinds := [], alts := [], laidByText := true, laidKinds := [.data, .data, .data, .data, .sentinel, .sentinel, .pinned], laidTests := true, laidLooks := .later }
def VeilMasksCardSaid : Prop := Claim7.holds Tryd.pinned (.plain (OpenSpec.ofChange veilMasksSpec)) veilMasksCard

/-- THE SECOND FORM's CARD OF 'gazetteerlaw49.VeilOpens'. -/
def veilOpensUptoCard : Claim7 := { stood := { row := veilOpensUptoRow, standIns := [], harness := (true, "6737b11e9a33f1e13dd40bd51ba45af3310dbdd17ff962d8fd8af22e8f1449ba"), looks := true }, kinds := [], alts := [], laidByText := true, laidKinds := [.data, .data, .data, .data, .sentinel, .sentinel, .pinned], laidTests := true, laidLooks := .later }
def VeilOpensUptoCardSaid : Prop := Claim7.holds Tryd.pinned (.plain (OpenSpec.upto veilOpensSpec)) veilOpensUptoCard

/-- THE SECOND FORM's CARD OF 'gazetteerlaw49.VeilOtherKeys'. -/
def veilOtherKeysUptoCard : Claim7 := { stood := { row := veilOtherKeysUptoRow, standIns := [], harness := (true, "6737b11e9a33f1e13dd40bd51ba45af3310dbdd17ff962d8fd8af22e8f1449ba"), looks := true }, kinds := [], alts := [], laidByText := true, laidKinds := [.data, .data, .data, .data, .sentinel, .sentinel, .pinned], laidTests := true, laidLooks := .later }
def VeilOtherKeysUptoCardSaid : Prop := Claim7.holds Tryd.pinned (.plain (OpenSpec.upto veilOtherKeysSpec)) veilOtherKeysUptoCard

/-- THE SECOND FORM's CARD OF 'gazetteerlaw49.VeilForged'. -/
def veilForgedUptoCard : Claim7 := { stood := { row := veilForgedUptoRow, standIns := [], harness := (true, "6737b11e9a33f1e13dd40bd51ba45af3310dbdd17ff962d8fd8af22e8f1449ba"), looks := true }, kinds := [], alts := [], laidByText := true, laidKinds := [.data, .data, .data, .data, .sentinel, .sentinel, .pinned], laidTests := true, laidLooks := .later }
def VeilForgedUptoCardSaid : Prop := Claim7.holds Tryd.pinned (.plain (OpenSpec.upto veilForgedSpec)) veilForgedUptoCard

/-- THE SECOND FORM's CARD OF 'gazetteerlaw49.VeilForm'. -/
def veilFormUptoCard : Claim7 := { stood := { row := veilFormUptoRow, standIns := [], harness := (true, "6737b11e9a33f1e13dd40bd51ba45af3310dbdd17ff962d8fd8af22e8f1449ba"), looks := true }, kinds := [], alts := [], laidByText := true, laidKinds := [.data, .data, .data, .data, .sentinel, .sentinel, .pinned], laidTests := true, laidLooks := .later }
def VeilFormUptoCardSaid : Prop := Claim7.holds Tryd.pinned (.plain (OpenSpec.upto veilFormSpec)) veilFormUptoCard

/-- THE SECOND FORM's CARD OF 'gazetteerlaw49.VeilMasks'. -/
def veilMasksUptoCard : Claim7 := { stood := { row := veilMasksUptoRow, standIns := [], harness := (true, "6737b11e9a33f1e13dd40bd51ba45af3310dbdd17ff962d8fd8af22e8f1449ba"), looks := true }, kinds := [], alts := [], laidByText := true, laidKinds := [.data, .data, .data, .data, .sentinel, .sentinel, .pinned], laidTests := true, laidLooks := .later }
def VeilMasksUptoCardSaid : Prop := Claim7.holds Tryd.pinned (.plain (OpenSpec.upto veilMasksSpec)) veilMasksUptoCard
end Rows
end Go.Proofs.YtdgbnplieaaokaaDoor
