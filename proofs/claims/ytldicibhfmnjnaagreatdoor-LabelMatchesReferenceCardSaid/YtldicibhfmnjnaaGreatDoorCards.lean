/-
  DERIVED. GIVEN WITH THE SEED: THE CARDS: each row of YtldicibhfmnjnaaGreatDoorRows.lean that lists a variable, with what it lists TIED to the program's text (the seventh form; the later family's looks); each row that meets fmt, with fmt's text TOLD by the authors' own Lean function (tested against real Go, not proved from fmt's source: count such statements apart). THE CARD IS WHAT COUNTS. Prove the row's statement (the work); the ties are given (YtldicibhfmnjnaaGreatDoorTie.lean); close each card by the builder's one call (the guide's Derived/Test/ToyasCard.lean, 'card_holds'). Laid BY PROGRAM, IN A SANDBOX (cutbox-door.mjs). By AI agents, Wed Nov 11 2026. No macro, syntax, notation, axiom, sorry.
-/
import Derived.Test.YtldicibhfmnjnaaGreatDoorRows
import GoSem.ClaimSeven
namespace Go.Proofs.YtldicibhfmnjnaaGreatDoor
namespace Rows

/-- THE TIED CARD OF 'gazetteerlaw46.LabelMatchesReference'. -/
def labelMatchesReferenceCard : Claim7 := { stood := { row := labelMatchesReferenceRow, standIns := [], harness := (true, "a5cdcb330bb3aa554ee920b91db4eb1ece0404049472d15de349e0a5b0bb3fd6"), looks := true }, kinds := [], alts := [], laidByText := true, laidKinds := [.data, .data, .data, .data, .sentinel, .sentinel, .pinned], laidTests := true, laidLooks := .later }
def LabelMatchesReferenceCardSaid : Prop := Claim7.holds Tryz.pinned (.plain (OpenSpec.ofChange labelMatchesReferenceSpec)) labelMatchesReferenceCard

/-- THE TIED CARD OF 'gazetteerlaw46.LabelReads'. -/
def labelReadsCard : Claim7 := { stood := { row := labelReadsRow, standIns := [], harness := (true, "a5cdcb330bb3aa554ee920b91db4eb1ece0404049472d15de349e0a5b0bb3fd6"), looks := true }, kinds := [], alts := [], laidByText := true, laidKinds := [.data, .data, .data, .data, .sentinel, .sentinel, .pinned], laidTests := true, laidLooks := .later }
def LabelReadsCardSaid : Prop := Claim7.holds Tryz.pinned (.plain (OpenSpec.ofChange labelReadsSpec)) labelReadsCard

/-- THE TIED CARD OF 'gazetteerlaw46.LabelUnreadable'. -/
def labelUnreadableCard : Claim7 := { stood := { row := labelUnreadableRow, standIns := [], harness := (true, "a5cdcb330bb3aa554ee920b91db4eb1ece0404049472d15de349e0a5b0bb3fd6"), looks := true }, kinds := [], alts := [], laidByText := true, laidKinds := [.data, .data, .data, .data, .sentinel, .sentinel, .pinned], laidTests := true, laidLooks := .later }
def LabelUnreadableCardSaid : Prop := Claim7.holds Tryz.pinned (.plain (OpenSpec.ofChange labelUnreadableSpec)) labelUnreadableCard

/-- THE TIED CARD OF 'gazetteerlaw46.LabelWrong'. -/
def labelWrongCard : Claim7 := { stood := { row := labelWrongRow, standIns := [], harness := (true, "a5cdcb330bb3aa554ee920b91db4eb1ece0404049472d15de349e0a5b0bb3fd6"), looks := true }, kinds := [], alts := [], laidByText := true, laidKinds := [.data, .data, .data, .data, .sentinel, .sentinel, .pinned], laidTests := true, laidLooks := .later }
def LabelWrongCardSaid : Prop := Claim7.holds Tryz.pinned (.plain (OpenSpec.ofChange labelWrongSpec)) labelWrongCard

/-- THE TIED CARD OF 'gazetteerlaw46.LabelBoth'. -/
def labelBothCard : Claim7 := { stood := { row := labelBothRow, standIns := [], harness := (true, "a5cdcb330bb3aa554ee920b91db4eb1ece0404049472d15de349e0a5b0bb3fd6"), looks := true }, kinds := [], alts := [], laidByText := true, laidKinds := [.data, .data, .data, .data, .sentinel, .sentinel, .pinned], laidTests := true, laidLooks := .later }
def LabelBothCardSaid : Prop := Claim7.holds Tryz.pinned (.plain (OpenSpec.ofChange labelBothSpec)) labelBothCard

/-- THE TIED CARD OF 'gazetteerlaw46.LabelFar'. -/
def labelFarCard : Claim7 := { stood := { row := labelFarRow, standIns := [], harness := (true, "a5cdcb330bb3aa554ee920b91db4eb1ece0404049472d15de349e0a5b0bb3fd6"), looks := true }, kinds := [], alts := [], laidByText := true, laidKinds := [.data, .data, .data, .data, .sentinel, .sentinel, .pinned], laidTests := true, laidLooks := .later }
def LabelFarCardSaid : Prop := Claim7.holds Tryz.pinned (.plain (OpenSpec.ofChange labelFarSpec)) labelFarCard

/-- THE TIED CARD OF 'gazetteerlaw46.LabelPacks'. -/
def labelPacksCard : Claim7 := { stood := { row := labelPacksRow, standIns := [], harness := (true, "a5cdcb330bb3aa554ee920b91db4eb1ece0404049472d15de349e0a5b0bb3fd6"), looks := true }, kinds := [], alts := [], laidByText := true, laidKinds := [.data, .data, .data, .data, .sentinel, .sentinel, .pinned], laidTests := true, laidLooks := .later }
def LabelPacksCardSaid : Prop := Claim7.holds Tryz.pinned (.plain (OpenSpec.ofChange labelPacksSpec)) labelPacksCard

/-- THE TIED CARD OF 'gazetteerlaw46.LabelSafe'. -/
def labelSafeCard : Claim7 := { stood := { row := labelSafeRow, standIns := [], harness := (true, "a5cdcb330bb3aa554ee920b91db4eb1ece0404049472d15de349e0a5b0bb3fd6"), looks := true }, kinds := [], alts := [], laidByText := true, laidKinds := [.data, .data, .data, .data, .sentinel, .sentinel, .pinned], laidTests := true, laidLooks := .later }
def LabelSafeCardSaid : Prop := Claim7.holds Tryz.pinned (.plain (OpenSpec.ofChange labelSafeSpec)) labelSafeCard

/-- THE SECOND FORM's CARD OF 'gazetteerlaw46.LabelMatchesReference'. -/
def labelMatchesReferenceUptoCard : Claim7 := { stood := { row := labelMatchesReferenceUptoRow, standIns := [], harness := (true, "a5cdcb330bb3aa554ee920b91db4eb1ece0404049472d15de349e0a5b0bb3fd6"), looks := true }, kinds := [], alts := [], laidByText := true, laidKinds := [.data, .data, .data, .data, .sentinel, .sentinel, .pinned], laidTests := true, laidLooks := .later }
def LabelMatchesReferenceUptoCardSaid : Prop := Claim7.holds Tryz.pinned (.plain (OpenSpec.upto labelMatchesReferenceSpec)) labelMatchesReferenceUptoCard

/-- THE SECOND FORM's CARD OF 'gazetteerlaw46.LabelReads'. -/
def labelReadsUptoCard : Claim7 := { stood := { row := labelReadsUptoRow, standIns := [], harness := (true, "a5cdcb330bb3aa554ee920b91db4eb1ece0404049472d15de349e0a5b0bb3fd6"), looks := true }, kinds := [], alts := [], laidByText := true, laidKinds := [.data, .data, .data, .data, .sentinel, .sentinel, .pinned], laidTests := true, laidLooks := .later }
def LabelReadsUptoCardSaid : Prop := Claim7.holds Tryz.pinned (.plain (OpenSpec.upto labelReadsSpec)) labelReadsUptoCard

/-- THE SECOND FORM's CARD OF 'gazetteerlaw46.LabelUnreadable'. -/
def labelUnreadableUptoCard : Claim7 := { stood := { row := labelUnreadableUptoRow, standIns := [], harness := (true, "a5cdcb330bb3aa554ee920b91db4eb1ece0404049472d15de349e0a5b0bb3fd6"), looks := true }, kinds := [], alts := [], laidByText := true, laidKinds := [.data, .data, .data, .data, .sentinel, .sentinel, .pinned], laidTests := true, laidLooks := .later }
def LabelUnreadableUptoCardSaid : Prop := Claim7.holds Tryz.pinned (.plain (OpenSpec.upto labelUnreadableSpec)) labelUnreadableUptoCard

/-- THE SECOND FORM's CARD OF 'gazetteerlaw46.LabelWrong'. -/
def labelWrongUptoCard : Claim7 := { stood := { row := labelWrongUptoRow, standIns := [], harness := (true, "a5cdcb330bb3aa554ee920b91db4eb1ece0404049472d15de349e0a5b0bb3fd6"), looks := true }, kinds := [], alts := [], laidByText := true, laidKinds := [.data, .data, .data, .data, .sentinel, .sentinel, .pinned], laidTests := true, laidLooks := .later }
def LabelWrongUptoCardSaid : Prop := Claim7.holds Tryz.pinned (.plain (OpenSpec.upto labelWrongSpec)) labelWrongUptoCard

/-- THE SECOND FORM's CARD OF 'gazetteerlaw46.LabelBoth'. -/
def labelBothUptoCard : Claim7 := { stood := { row := labelBothUptoRow, standIns := [], harness := (true, "a5cdcb330bb3aa554ee920b91db4eb1ece0404049472d15de349e0a5b0bb3fd6"), looks := true }, kinds := [], alts := [], laidByText := true, laidKinds := [.data, .data, .data, .data, .sentinel, .sentinel, .pinned], laidTests := true, laidLooks := .later }
def LabelBothUptoCardSaid : Prop := Claim7.holds Tryz.pinned (.plain (OpenSpec.upto labelBothSpec)) labelBothUptoCard

/-- THE SECOND FORM's CARD OF 'gazetteerlaw46.LabelFar'. -/
def labelFarUptoCard : Claim7 := { stood := { row := labelFarUptoRow, standIns := [], harness := (true, "a5cdcb330bb3aa554ee920b91db4eb1ece0404049472d15de349e0a5b0bb3fd6"), looks := true }, kinds := [], alts := [], laidByText := true, laidKinds := [.data, .data, .data, .data, .sentinel, .sentinel, .pinned], laidTests := true, laidLooks := .later }
def LabelFarUptoCardSaid : Prop := Claim7.holds Tryz.pinned (.plain (OpenSpec.upto labelFarSpec)) labelFarUptoCard

/-- THE SECOND FORM's CARD OF 'gazetteerlaw46.LabelPacks'. -/
def labelPacksUptoCard : Claim7 := { stood := { row := labelPacksUptoRow, standIns := [], harness := (true, "a5cdcb330bb3aa554ee920b91db4eb1ece0404049472d15de349e0a5b0bb3fd6"), looks := true }, kinds := [], alts := [], laidByText := true, laidKinds := [.data, .data, .data, .data, .sentinel, .sentinel, .pinned], laidTests := true, laidLooks := .later }
def LabelPacksUptoCardSaid : Prop := Claim7.holds Tryz.pinned (.plain (OpenSpec.upto labelPacksSpec)) labelPacksUptoCard

/-- THE SECOND FORM's CARD OF 'gazetteerlaw46.LabelSafe'. -/
def labelSafeUptoCard : Claim7 := { stood := { row := labelSafeUptoRow, standIns := [], harness := (true, "a5cdcb330bb3aa554ee920b91db4eb1ece0404049472d15de349e0a5b0bb3fd6"), looks := true }, kinds := [], alts := [], laidByText := true, laidKinds := [.data, .data, .data, .data, .sentinel, .sentinel, .pinned], laidTests := true, laidLooks := .later }
def LabelSafeUptoCardSaid : Prop := Claim7.holds Tryz.pinned (.plain (OpenSpec.upto labelSafeSpec)) labelSafeUptoCard
end Rows
end Go.Proofs.YtldicibhfmnjnaaGreatDoor
