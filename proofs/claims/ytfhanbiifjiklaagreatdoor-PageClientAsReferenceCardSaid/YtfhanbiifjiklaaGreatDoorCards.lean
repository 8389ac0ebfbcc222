/-
  DERIVED. GIVEN WITH THE SEED: THE CARDS: each row of YtfhanbiifjiklaaGreatDoorRows.lean that lists a variable, with what it lists TIED to the program's text (the seventh form; the later family's looks); each row that meets fmt, with fmt's text TOLD by the authors' own Lean function (tested against real Go, not proved from fmt's source: count such statements apart). THE CARD IS WHAT COUNTS. Prove the row's statement (the work); the ties are given (YtfhanbiifjiklaaGreatDoorTie.lean); close each card by the builder's one call (the guide's Derived/Test/ToyasCard.lean, 'card_holds'). Laid BY PROGRAM, IN A SANDBOX (cutbox-door.mjs). By AI agents, Wed Nov 11 2026. No macro, syntax, notation, axiom, sorry.
-/
import Derived.Test.YtfhanbiifjiklaaGreatDoorRows
import GoSem.ClaimSeven
namespace Go.Proofs.YtfhanbiifjiklaaGreatDoor
namespace Rows

/-- THE TIED CARD OF 'gazetteerlaw54.PageMatchesReference'. -/
def pageMatchesReferenceCard : Claim7 := { stood := { row := pageMatchesReferenceRow, standIns := [], harness := (true, "59b09cc11d794389de7e443788240f6cf73bc5b6f3aa018a3a8af4966eab5e81"), looks := true }, kinds := [], alts := [], laidByText := true, laidKinds := [.data, .data, .data, .data, .sentinel, .sentinel, .pinned], laidTests := true, laidLooks := .later }
def PageMatchesReferenceCardSaid : Prop := Claim7.holds Tryz.pinned (.plain (OpenSpec.ofChange pageMatchesReferenceSpec)) pageMatchesReferenceCard

/-- THE TIED CARD OF 'gazetteerlaw54.PageComplete'. -/
def pageCompleteCard : Claim7 := { stood := { row := pageCompleteRow, standIns := [], harness := (true, "59b09cc11d794389de7e443788240f6cf73bc5b6f3aa018a3a8af4966eab5e81"), looks := true }, kinds := [], alts := [], laidByText := true, laidKinds := [.data, .data, .data, .data, .sentinel, .sentinel, .pinned], laidTests := true, laidLooks := .later }
def PageCompleteCardSaid : Prop := Claim7.holds Tryz.pinned (.plain (OpenSpec.ofChange pageCompleteSpec)) pageCompleteCard

/-- THE TIED CARD OF 'gazetteerlaw54.PageForgery'. -/
def pageForgeryCard : Claim7 := { stood := { row := pageForgeryRow, standIns := [], harness := (true, "59b09cc11d794389de7e443788240f6cf73bc5b6f3aa018a3a8af4966eab5e81"), looks := true }, kinds := [], alts := [], laidByText := true, laidKinds := [.data, .data, .data, .data, .sentinel, .sentinel, .pinned], laidTests := true, laidLooks := .later }
def PageForgeryCardSaid : Prop := Claim7.holds Tryz.pinned (.plain (OpenSpec.ofChange pageForgerySpec)) pageForgeryCard

/-- THE TIED CARD OF 'gazetteerlaw54.PageAny'. -/
def pageAnyCard : Claim7 := { stood := { row := pageAnyRow, standIns := [], harness := (true, "59b09cc11d794389de7e443788240f6cf73bc5b6f3aa018a3a8af4966eab5e81"), looks := true }, kinds := [], alts := [], laidByText := true, laidKinds := [.data, .data, .data, .data, .sentinel, .sentinel, .pinned], laidTests := true, laidLooks := .later }
def PageAnyCardSaid : Prop := Claim7.holds Tryz.pinned (.plain (OpenSpec.ofChange pageAnySpec)) pageAnyCard

/-- THE TIED CARD OF 'gazetteerlaw54.PageTexts'. -/
def pageTextsCard : Claim7 := { stood := { row := pageTextsRow, standIns := [], harness := (true, "59b09cc11d794389de7e443788240f6cf73bc5b6f3aa018a3a8af4966eab5e81"), looks := true }, kinds := [], alts := [], laidByText := true, laidKinds := [.data, .data, .data, .data, .sentinel, .sentinel, .pinned], laidTests := true, laidLooks := .later }
def PageTextsCardSaid : Prop := Claim7.holds Tryz.pinned (.plain (OpenSpec.ofChange pageTextsSpec)) pageTextsCard

/-- THE TIED CARD OF 'gazetteerlaw54.PageClientAsReference'. -/
def pageClientAsReferenceCard : Claim7 := { stood := { row := pageClientAsReferenceRow, standIns := [], harness := (true, "59b09cc11d794389de7e443788240f6cf73bc5b6f3aa018a3a8af4966eab5e81"), looks := true }, kinds := [], alts := [], laidByText := true, laidKinds := [.data, .data, .data, .data, .sentinel, .sentinel, .pinned], laidTests := true, laidLooks := .later }
def PageClientAsReferenceCardSaid : Prop := Claim7.holds Tryz.pinned (.plain (OpenSpec.ofChange pageClientAsReferenceSpec)) pageClientAsReferenceCard

/-- THE TIED CARD OF 'gazetteerlaw54.PageGrowsTruly'. -/
def pageGrowsTrulyCard : Claim7 := { stood := { row := pageGrowsTrulyRow, standIns := [], harness := (true, "59b09cc11d794389de7e443788240f6cf73bc5b6f3aa018a3a8af4966eab5e81"), looks := true }, kinds := [], alts := [], laidByText := true, laidKinds := [.data, .data, .data, .data, .sentinel, .sentinel, .pinned], laidTests := true, laidLooks := .later }
def PageGrowsTrulyCardSaid : Prop := Claim7.holds Tryz.pinned (.plain (OpenSpec.ofChange pageGrowsTrulySpec)) pageGrowsTrulyCard

/-- THE TIED CARD OF 'gazetteerlaw54.PageGrows'. -/
def pageGrowsCard : Claim7 := { stood := { row := pageGrowsRow, standIns := [], harness := (true, "59b09cc11d794389de7e443788240f6cf73bc5b6f3aa018a3a8af4966eab5e81"), looks := true }, kinds := [], alts := [], laidByText := true, laidKinds := [.data, .data, .data, .data, .sentinel, .sentinel, .pinned], laidTests := true, laidLooks := .later }
def PageGrowsCardSaid : Prop := Claim7.holds Tryz.pinned (.plain (OpenSpec.ofChange pageGrowsSpec)) pageGrowsCard

/-- THE SECOND FORM's CARD OF 'gazetteerlaw54.PageMatchesReference'. -/
def pageMatchesReferenceUptoCard : Claim7 := { stood := { row := pageMatchesReferenceUptoRow, standIns := [], harness := (true, "59b09cc11d794389de7e443788240f6cf73bc5b6f3aa018a3a8af4966eab5e81"), looks := true }, kinds := [], alts := [], laidByText := true, laidKinds := [.data, .data, .data, .data, .sentinel, .sentinel, .pinned], laidTests := true, laidLooks := .later }
def PageMatchesReferenceUptoCardSaid : Prop := Claim7.holds Tryz.pinned (.plain (OpenSpec.upto pageMatchesReferenceSpec)) pageMatchesReferenceUptoCard

/-- THE SECOND FORM's CARD OF 'gazetteerlaw54.PageComplete'. -/
def pageCompleteUptoCard : Claim7 := { stood := { row := pageCompleteUptoRow, standIns := [], harness := (true, "59b09cc11d794389de7e443788240f6cf73bc5b6f3aa018a3a8af4966eab5e81"), looks := true }, kinds := [], alts := [], laidByText := true, laidKinds := [.data, .data, .data, .data, .sentinel, .sentinel, .pinned], laidTests := true, laidLooks := .later }
def PageCompleteUptoCardSaid : Prop := Claim7.holds Tryz.pinned (.plain (OpenSpec.upto pageCompleteSpec)) pageCompleteUptoCard

/-- THE SECOND FORM's CARD OF 'gazetteerlaw54.PageForgery'. -/
def pageForgeryUptoCard : Claim7 := { stood := { row := pageForgeryUptoRow, standIns := [], harness := (true, "59b09cc11d794389de7e443788240f6cf73bc5b6f3aa018a3a8af4966eab5e81"), looks := true }, kinds := [], alts := [], laidByText := true, laidKinds := [.data, .data, .data, .data, .sentinel, .sentinel, .pinned], laidTests := true, laidLooks := .later }
def PageForgeryUptoCardSaid : Prop := Claim7.holds Tryz.pinned (.plain (OpenSpec.upto pageForgerySpec)) pageForgeryUptoCard

/-- THE SECOND FORM's CARD OF 'gazetteerlaw54.PageAny'. -/
def pageAnyUptoCard : Claim7 := { stood := { row := pageAnyUptoRow, standIns := [], harness := (true, "59b09cc11d794389de7e443788240f6cf73bc5b6f3aa018a3a8af4966eab5e81"), looks := true }, kinds := [], alts := [], laidByText := true, laidKinds := [.data, .data, .data, .data, .sentinel, .sentinel, .pinned], laidTests := true, laidLooks := .later }
def PageAnyUptoCardSaid : Prop := Claim7.holds Tryz.pinned (.plain (OpenSpec.upto pageAnySpec)) pageAnyUptoCard

/-- THE SECOND FORM's CARD OF 'gazetteerlaw54.PageTexts'. -/
def pageTextsUptoCard : Claim7 := { stood := { row := pageTextsUptoRow, standIns := [], harness := (true, "59b09cc11d794389de7e443788240f6cf73bc5b6f3aa018a3a8af4966eab5e81"), looks := true }, kinds := [], alts := [], laidByText := true, laidKinds := [.data, .data, .data, .data, .sentinel, .sentinel, .pinned], laidTests := true, laidLooks := .later }
def PageTextsUptoCardSaid : Prop := Claim7.holds Tryz.pinned (.plain (OpenSpec.upto pageTextsSpec)) pageTextsUptoCard

/-- THE SECOND FORM's CARD OF 'gazetteerlaw54.PageClientAsReference'. -/
def pageClientAsReferenceUptoCard : Claim7 := { stood := { row := pageClientAsReferenceUptoRow, standIns := [], harness := (true, "59b09cc11d794389de7e443788240f6cf73bc5b6f3aa018a3a8af4966eab5e81"), looks := true }, kinds := [], alts := [], laidByText := true, laidKinds := [.data, .data, .data, .data, .sentinel, .sentinel, .pinned], laidTests := true, laidLooks := .later }
def PageClientAsReferenceUptoCardSaid : Prop := Claim7.holds Tryz.pinned (.plain (OpenSpec.upto pageClientAsReferenceSpec)) pageClientAsReferenceUptoCard

/-- THE SECOND FORM's CARD OF 'gazetteerlaw54.PageGrowsTruly'. -/
def pageGrowsTrulyUptoCard : Claim7 := { stood := { row := pageGrowsTrulyUptoRow, standIns := [], harness := (true, "59b09cc11d794389de7e443788240f6cf73bc5b6f3aa018a3a8af4966eab5e81"), looks := true }, kinds := [], alts := [], laidByText := true, laidKinds := [.data, .data, .data, .data, .sentinel, .sentinel, .pinned], laidTests := true, laidLooks := .later }
def PageGrowsTrulyUptoCardSaid : Prop := Claim7.holds Tryz.pinned (.plain (OpenSpec.upto pageGrowsTrulySpec)) pageGrowsTrulyUptoCard

/-- THE SECOND FORM's CARD OF 'gazetteerlaw54.PageGrows'. -/
def pageGrowsUptoCard : Claim7 := { stood := { row := pageGrowsUptoRow, standIns := [], harness := (true, "59b09cc11d794389de7e443788240f6cf73bc5b6f3aa018a3a8af4966eab5e81"), looks := true }, kinds := [], alts := [], laidByText := true, laidKinds := [.data, .data, .data, .data, .sentinel, .sentinel, .pinned], laidTests := true, laidLooks := .later }
def PageGrowsUptoCardSaid : Prop := Claim7.holds Tryz.pinned (.plain (OpenSpec.upto pageGrowsSpec)) pageGrowsUptoCard
end Rows
end Go.Proofs.YtfhanbiifjiklaaGreatDoor
