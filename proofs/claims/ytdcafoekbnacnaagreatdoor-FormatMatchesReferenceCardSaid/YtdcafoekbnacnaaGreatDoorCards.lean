/-
  DERIVED. GIVEN WITH THE SEED: THE CARDS: each row of YtdcafoekbnacnaaGreatDoorRows.lean that lists a variable, with what it lists TIED to the program's text (the seventh form; the later family's looks); each row that meets fmt, with fmt's text TOLD by the authors' own Lean function (tested against real Go, not proved from fmt's source: count such statements apart). THE CARD IS WHAT COUNTS. Prove the row's statement (the work); the ties are given (YtdcafoekbnacnaaGreatDoorTie.lean); close each card by the builder's one call (the guide's Derived/Test/ToyasCard.lean, 'card_holds'). Laid BY PROGRAM, IN A SANDBOX (cutbox-door.mjs). By AI agents, Wed Nov 11 2026. No macro, syntax, notation, axiom, sorry.
-/
import Derived.Test.YtdcafoekbnacnaaGreatDoorRows
import GoSem.ClaimSeven
namespace Go.Proofs.YtdcafoekbnacnaaGreatDoor
namespace Rows

/-- THE TIED CARD OF 'gazetteerlaw23.SchemeMatchesReference'. -/
def schemeMatchesReferenceCard : Claim7 := { stood := { row := schemeMatchesReferenceRow, standIns := [], harness := (true, "5c60d74d29d2b7e1ff39bc3668c5936bfc228215227c91c35cde66d84e7beeba"), looks := true }, kinds := [], alts := [], laidByText := true, laidKinds := [.data, .data, .data, .data, .sentinel, .sentinel, .pinned], laidTests := true, laidLooks := .later }
def SchemeMatchesReferenceCardSaid : Prop := Claim7.holds Tryz.pinned (.plain (OpenSpec.ofChange schemeMatchesReferenceSpec)) schemeMatchesReferenceCard

/-- THE TIED CARD OF 'gazetteerlaw23.SchemeOneWay'. -/
def schemeOneWayCard : Claim7 := { stood := { row := schemeOneWayRow, standIns := [], harness := (true, "5c60d74d29d2b7e1ff39bc3668c5936bfc228215227c91c35cde66d84e7beeba"), looks := true }, kinds := [], alts := [], laidByText := true, laidKinds := [.data, .data, .data, .data, .sentinel, .sentinel, .pinned], laidTests := true, laidLooks := .later }
def SchemeOneWayCardSaid : Prop := Claim7.holds Tryz.pinned (.plain (OpenSpec.ofChange schemeOneWaySpec)) schemeOneWayCard

/-- THE TIED CARD OF 'gazetteerlaw23.SchemeParts'. -/
def schemePartsCard : Claim7 := { stood := { row := schemePartsRow, standIns := [], harness := (true, "5c60d74d29d2b7e1ff39bc3668c5936bfc228215227c91c35cde66d84e7beeba"), looks := true }, kinds := [], alts := [], laidByText := true, laidKinds := [.data, .data, .data, .data, .sentinel, .sentinel, .pinned], laidTests := true, laidLooks := .later }
def SchemePartsCardSaid : Prop := Claim7.holds Tryz.pinned (.plain (OpenSpec.ofChange schemePartsSpec)) schemePartsCard

/-- THE TIED CARD OF 'gazetteerlaw23.SchemeNeeds'. -/
def schemeNeedsCard : Claim7 := { stood := { row := schemeNeedsRow, standIns := [], harness := (true, "5c60d74d29d2b7e1ff39bc3668c5936bfc228215227c91c35cde66d84e7beeba"), looks := true }, kinds := [], alts := [], laidByText := true, laidKinds := [.data, .data, .data, .data, .sentinel, .sentinel, .pinned], laidTests := true, laidLooks := .later }
def SchemeNeedsCardSaid : Prop := Claim7.holds Tryz.pinned (.plain (OpenSpec.ofChange schemeNeedsSpec)) schemeNeedsCard

/-- THE TIED CARD OF 'gazetteerlaw23.SchemeValues'. -/
def schemeValuesCard : Claim7 := { stood := { row := schemeValuesRow, standIns := [], harness := (true, "5c60d74d29d2b7e1ff39bc3668c5936bfc228215227c91c35cde66d84e7beeba"), looks := true }, kinds := [], alts := [], laidByText := true, laidKinds := [.data, .data, .data, .data, .sentinel, .sentinel, .pinned], laidTests := true, laidLooks := .later }
def SchemeValuesCardSaid : Prop := Claim7.holds Tryz.pinned (.plain (OpenSpec.ofChange schemeValuesSpec)) schemeValuesCard

/-- THE TIED CARD OF 'gazetteerlaw23.SchemeTexts'. -/
def schemeTextsCard : Claim7 := { stood := { row := schemeTextsRow, standIns := [], harness := (true, "5c60d74d29d2b7e1ff39bc3668c5936bfc228215227c91c35cde66d84e7beeba"), looks := true }, kinds := [], alts := [], laidByText := true, laidKinds := [.data, .data, .data, .data, .sentinel, .sentinel, .pinned], laidTests := true, laidLooks := .later }
def SchemeTextsCardSaid : Prop := Claim7.holds Tryz.pinned (.plain (OpenSpec.ofChange schemeTextsSpec)) schemeTextsCard

/-- THE TIED CARD OF 'gazetteerlaw23.SchemeGaps'. -/
def schemeGapsCard : Claim7 := { stood := { row := schemeGapsRow, standIns := [], harness := (true, "5c60d74d29d2b7e1ff39bc3668c5936bfc228215227c91c35cde66d84e7beeba"), looks := true }, kinds := [], alts := [], laidByText := true, laidKinds := [.data, .data, .data, .data, .sentinel, .sentinel, .pinned], laidTests := true, laidLooks := .later }
def SchemeGapsCardSaid : Prop := Claim7.holds Tryz.pinned (.plain (OpenSpec.ofChange schemeGapsSpec)) schemeGapsCard

/-- THE TIED CARD OF 'gazetteerlaw24.FormatMatchesReference'. -/
def formatMatchesReferenceCard : Claim7 := { stood := { row := formatMatchesReferenceRow, standIns := [], harness := (true, "5c60d74d29d2b7e1ff39bc3668c5936bfc228215227c91c35cde66d84e7beeba"), looks := true }, kinds := [], alts := [], laidByText := true, laidKinds := [.data, .data, .data, .data, .sentinel, .sentinel, .listed, .data, .pinned], laidTests := true, laidLooks := .later }
def FormatMatchesReferenceCardSaid : Prop := Claim7.holds Tryz.pinned (.plain (OpenSpec.ofChange formatMatchesReferenceSpec)) formatMatchesReferenceCard

/-- THE TIED CARD OF 'gazetteerlaw24.FormatReads'. -/
def formatReadsCard : Claim7 := { stood := { row := formatReadsRow, standIns := [], harness := (true, "5c60d74d29d2b7e1ff39bc3668c5936bfc228215227c91c35cde66d84e7beeba"), looks := true }, kinds := [], alts := [], laidByText := true, laidKinds := [.data, .data, .data, .data, .sentinel, .sentinel, .listed, .data, .pinned], laidTests := true, laidLooks := .later }
def FormatReadsCardSaid : Prop := Claim7.holds Tryz.pinned (.plain (OpenSpec.ofChange formatReadsSpec)) formatReadsCard

/-- THE TIED CARD OF 'gazetteerlaw24.FormatWrites'. -/
def formatWritesCard : Claim7 := { stood := { row := formatWritesRow, standIns := [], harness := (true, "5c60d74d29d2b7e1ff39bc3668c5936bfc228215227c91c35cde66d84e7beeba"), looks := true }, kinds := [], alts := [], laidByText := true, laidKinds := [.data, .data, .data, .data, .sentinel, .sentinel, .listed, .data, .pinned], laidTests := true, laidLooks := .later }
def FormatWritesCardSaid : Prop := Claim7.holds Tryz.pinned (.plain (OpenSpec.ofChange formatWritesSpec)) formatWritesCard

/-- THE TIED CARD OF 'gazetteerlaw24.FormatRefuses'. -/
def formatRefusesCard : Claim7 := { stood := { row := formatRefusesRow, standIns := [], harness := (true, "5c60d74d29d2b7e1ff39bc3668c5936bfc228215227c91c35cde66d84e7beeba"), looks := true }, kinds := [], alts := [], laidByText := true, laidKinds := [.data, .data, .data, .data, .sentinel, .sentinel, .listed, .data, .pinned], laidTests := true, laidLooks := .later }
def FormatRefusesCardSaid : Prop := Claim7.holds Tryz.pinned (.plain (OpenSpec.ofChange formatRefusesSpec)) formatRefusesCard

/-- THE TIED CARD OF 'gazetteerlaw24.FormatReplaces'. -/
def formatReplacesCard : Claim7 := { stood := { row := formatReplacesRow, standIns := [], harness := (true, "5c60d74d29d2b7e1ff39bc3668c5936bfc228215227c91c35cde66d84e7beeba"), looks := true }, kinds := [], alts := [], laidByText := true, laidKinds := [.data, .data, .data, .data, .sentinel, .sentinel, .listed, .data, .pinned], laidTests := true, laidLooks := .later }
def FormatReplacesCardSaid : Prop := Claim7.holds Tryz.pinned (.plain (OpenSpec.ofChange formatReplacesSpec)) formatReplacesCard

/-- THE SECOND FORM's CARD OF 'gazetteerlaw23.SchemeMatchesReference'. -/
def schemeMatchesReferenceUptoCard : Claim7 := { stood := { row := schemeMatchesReferenceUptoRow, standIns := [], harness := (true, "5c60d74d29d2b7e1ff39bc3668c5936bfc228215227c91c35cde66d84e7beeba"), looks := true }, kinds := [], alts := [], laidByText := true, laidKinds := [.data, .data, .data, .data, .sentinel, .sentinel, .pinned], laidTests := true, laidLooks := .later }
def SchemeMatchesReferenceUptoCardSaid : Prop := Claim7.holds Tryz.pinned (.plain (OpenSpec.upto schemeMatchesReferenceSpec)) schemeMatchesReferenceUptoCard

/-- THE SECOND FORM's CARD OF 'gazetteerlaw23.SchemeOneWay'. -/
def schemeOneWayUptoCard : Claim7 := { stood := { row := schemeOneWayUptoRow, standIns := [], harness := (true, "5c60d74d29d2b7e1ff39bc3668c5936bfc228215227c91c35cde66d84e7beeba"), looks := true }, kinds := [], alts := [], laidByText := true, laidKinds := [.data, .data, .data, .data, .sentinel, .sentinel, .pinned], laidTests := true, laidLooks := .later }
def SchemeOneWayUptoCardSaid : Prop := Claim7.holds Tryz.pinned (.plain (OpenSpec.upto schemeOneWaySpec)) schemeOneWayUptoCard

/-- THE SECOND FORM's CARD OF 'gazetteerlaw23.SchemeParts'. -/
def schemePartsUptoCard : Claim7 := { stood := { row := schemePartsUptoRow, standIns := [], harness := (true, "5c60d74d29d2b7e1ff39bc3668c5936bfc228215227c91c35cde66d84e7beeba"), looks := true }, kinds := [], alts := [], laidByText := true, laidKinds := [.data, .data, .data, .data, .sentinel, .sentinel, .pinned], laidTests := true, laidLooks := .later }
def SchemePartsUptoCardSaid : Prop := Claim7.holds Tryz.pinned (.plain (OpenSpec.upto schemePartsSpec)) schemePartsUptoCard

/-- THE SECOND FORM's CARD OF 'gazetteerlaw23.SchemeNeeds'. -/
def schemeNeedsUptoCard : Claim7 := { stood := { row := schemeNeedsUptoRow, standIns := [], harness := (true, "5c60d74d29d2b7e1ff39bc3668c5936bfc228215227c91c35cde66d84e7beeba"), looks := true }, kinds := [], alts := [], laidByText := true, laidKinds := [.data, .data, .data, .data, .sentinel, .sentinel, .pinned], laidTests := true, laidLooks := .later }
def SchemeNeedsUptoCardSaid : Prop := Claim7.holds Tryz.pinned (.plain (OpenSpec.upto schemeNeedsSpec)) schemeNeedsUptoCard

/-- THE SECOND FORM's CARD OF 'gazetteerlaw23.SchemeValues'. -/
def schemeValuesUptoCard : Claim7 := { stood := { row := schemeValuesUptoRow, standIns := [], harness := (true, "5c60d74d29d2b7e1ff39bc3668c5936bfc228215227c91c35cde66d84e7beeba"), looks := true }, kinds := [], alts := [], laidByText := true, laidKinds := [.data, .data, .data, .data, .sentinel, .sentinel, .pinned], laidTests := true, laidLooks := .later }
def SchemeValuesUptoCardSaid : Prop := Claim7.holds Tryz.pinned (.plain (OpenSpec.upto schemeValuesSpec)) schemeValuesUptoCard

/-- THE SECOND FORM's CARD OF 'gazetteerlaw23.SchemeTexts'. -/
def schemeTextsUptoCard : Claim7 := { stood := { row := schemeTextsUptoRow, standIns := [], harness := (true, "5c60d74d29d2b7e1ff39bc3668c5936bfc228215227c91c35cde66d84e7beeba"), looks := true }, kinds := [], alts := [], laidByText := true, laidKinds := [.data, .data, .data, .data, .sentinel, .sentinel, .pinned], laidTests := true, laidLooks := .later }
def SchemeTextsUptoCardSaid : Prop := Claim7.holds Tryz.pinned (.plain (OpenSpec.upto schemeTextsSpec)) schemeTextsUptoCard

/-- THE SECOND FORM's CARD OF 'gazetteerlaw23.SchemeGaps'. -/
def schemeGapsUptoCard : Claim7 := { stood := { row := schemeGapsUptoRow, standIns := [], harness := (true, "5c60d74d29d2b7e1ff39bc3668c5936bfc228215227c91c35cde66d84e7beeba"), looks := true }, kinds := [], alts := [], laidByText := true, laidKinds := [.data, .data, .data, .data, .sentinel, .sentinel, .pinned], laidTests := true, laidLooks := .later }
def SchemeGapsUptoCardSaid : Prop := Claim7.holds Tryz.pinned (.plain (OpenSpec.upto schemeGapsSpec)) schemeGapsUptoCard

/-- THE SECOND FORM's CARD OF 'gazetteerlaw24.FormatMatchesReference'. -/
def formatMatchesReferenceUptoCard : Claim7 := { stood := { row := formatMatchesReferenceUptoRow, standIns := [], harness := (true, "5c60d74d29d2b7e1ff39bc3668c5936bfc228215227c91c35cde66d84e7beeba"), looks := true }, kinds := [], alts := [], laidByText := true, laidKinds := [.data, .data, .data, .data, .sentinel, .sentinel, .listed, .data, .pinned], laidTests := true, laidLooks := .later }
def FormatMatchesReferenceUptoCardSaid : Prop := Claim7.holds Tryz.pinned (.plain (OpenSpec.upto formatMatchesReferenceSpec)) formatMatchesReferenceUptoCard

/-- THE SECOND FORM's CARD OF 'gazetteerlaw24.FormatReads'. -/
def formatReadsUptoCard : Claim7 := { stood := { row := formatReadsUptoRow, standIns := [], harness := (true, "5c60d74d29d2b7e1ff39bc3668c5936bfc228215227c91c35cde66d84e7beeba"), looks := true }, kinds := [], alts := [], laidByText := true, laidKinds := [.data, .data, .data, .data, .sentinel, .sentinel, .listed, .data, .pinned], laidTests := true, laidLooks := .later }
def FormatReadsUptoCardSaid : Prop := Claim7.holds Tryz.pinned (.plain (OpenSpec.upto formatReadsSpec)) formatReadsUptoCard

/-- THE SECOND FORM's CARD OF 'gazetteerlaw24.FormatWrites'. -/
def formatWritesUptoCard : Claim7 := { stood := { row := formatWritesUptoRow, standIns := [], harness := (true, "5c60d74d29d2b7e1ff39bc3668c5936bfc228215227c91c35cde66d84e7beeba"), looks := true }, kinds := [], alts := [], laidByText := true, laidKinds := [.data, .data, .data, .data, .sentinel, .sentinel, .listed, .data, .pinned], laidTests := true, laidLooks := .later }
def FormatWritesUptoCardSaid : Prop := Claim7.holds Tryz.pinned (.plain (OpenSpec.upto formatWritesSpec)) formatWritesUptoCard

/-- THE SECOND FORM's CARD OF 'gazetteerlaw24.FormatRefuses'. -/
def formatRefusesUptoCard : Claim7 := { stood := { row := formatRefusesUptoRow, standIns := [], harness := (true, "5c60d74d29d2b7e1ff39bc3668c5936bfc228215227c91c35cde66d84e7beeba"), looks := true }, kinds := [], alts := [], laidByText := true, laidKinds := [.data, .data, .data, .data, .sentinel, .sentinel, .listed, .data, .pinned], laidTests := true, laidLooks := .later }
def FormatRefusesUptoCardSaid : Prop := Claim7.holds Tryz.pinned (.plain (OpenSpec.upto formatRefusesSpec)) formatRefusesUptoCard

/-- THE SECOND FORM's CARD OF 'gazetteerlaw24.FormatReplaces'. -/
def formatReplacesUptoCard : Claim7 := { stood := { row := formatReplacesUptoRow, standIns := [], harness := (true, "5c60d74d29d2b7e1ff39bc3668c5936bfc228215227c91c35cde66d84e7beeba"), looks := true }, kinds := [], alts := [], laidByText := true, laidKinds := [.data, .data, .data, .data, .sentinel, .sentinel, .listed, .data, .pinned], laidTests := true, laidLooks := .later }
def FormatReplacesUptoCardSaid : Prop := Claim7.holds Tryz.pinned (.plain (OpenSpec.upto formatReplacesSpec)) formatReplacesUptoCard
end Rows
end Go.Proofs.YtdcafoekbnacnaaGreatDoor
