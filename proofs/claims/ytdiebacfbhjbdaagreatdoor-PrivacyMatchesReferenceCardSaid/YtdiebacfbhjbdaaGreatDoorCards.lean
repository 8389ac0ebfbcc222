/-
  DERIVED. GIVEN WITH THE SEED: THE CARDS: each row of YtdiebacfbhjbdaaGreatDoorRows.lean that lists a variable, with what it lists TIED to the program's text (the seventh form; the later family's looks); each row that meets fmt, with fmt's text TOLD by the authors' own Lean function (tested against real Go, not proved from fmt's source: count such statements apart). THE CARD IS WHAT COUNTS. Prove the row's statement (the work); the ties are given (YtdiebacfbhjbdaaGreatDoorTie.lean); close each card by the builder's one call (the guide's Derived/Test/ToyasCard.lean, 'card_holds'). Laid BY PROGRAM, IN A SANDBOX (cutbox-door.mjs). By AI agents, Wed Nov 11 2026. No macro, syntax, notation, axiom, sorry.
-/
import Derived.Test.YtdiebacfbhjbdaaGreatDoorRows
import GoSem.ClaimSeven
namespace Go.Proofs.YtdiebacfbhjbdaaGreatDoor
namespace Rows

/-- THE TIED CARD OF 'gazetteerlaw55.PrivacySameLog'. -/
def privacySameLogCard : Claim7 := { stood := { row := privacySameLogRow, standIns := [], harness := (true, "1bb2359057b982f883dc8947ac79bc8276bd61cc04c87a541a7b9a4bc39e26f6"), looks := true }, kinds := [], alts := [], laidByText := true, laidKinds := [.data, .data, .data, .data, .sentinel, .sentinel, .pinned], laidTests := true, laidLooks := .later }
def PrivacySameLogCardSaid : Prop := Claim7.holds Tryz.pinned (.plain (OpenSpec.ofChange privacySameLogSpec)) privacySameLogCard

/-- THE TIED CARD OF 'gazetteerlaw55.PrivacyNothingLeft'. -/
def privacyNothingLeftCard : Claim7 := { stood := { row := privacyNothingLeftRow, standIns := [], harness := (true, "1bb2359057b982f883dc8947ac79bc8276bd61cc04c87a541a7b9a4bc39e26f6"), looks := true }, kinds := [], alts := [], laidByText := true, laidKinds := [.data, .data, .data, .data, .sentinel, .sentinel, .pinned], laidTests := true, laidLooks := .later }
def PrivacyNothingLeftCardSaid : Prop := Claim7.holds Tryz.pinned (.plain (OpenSpec.ofChange privacyNothingLeftSpec)) privacyNothingLeftCard

/-- THE TIED CARD OF 'gazetteerlaw55.PrivacyOnce'. -/
def privacyOnceCard : Claim7 := { stood := { row := privacyOnceRow, standIns := [], harness := (true, "1bb2359057b982f883dc8947ac79bc8276bd61cc04c87a541a7b9a4bc39e26f6"), looks := true }, kinds := [], alts := [], laidByText := true, laidKinds := [.data, .data, .data, .data, .sentinel, .sentinel, .pinned], laidTests := true, laidLooks := .later }
def PrivacyOnceCardSaid : Prop := Claim7.holds Tryz.pinned (.plain (OpenSpec.ofChange privacyOnceSpec)) privacyOnceCard

/-- THE TIED CARD OF 'gazetteerlaw55.PrivacyNoTrace'. -/
def privacyNoTraceCard : Claim7 := { stood := { row := privacyNoTraceRow, standIns := [], harness := (true, "1bb2359057b982f883dc8947ac79bc8276bd61cc04c87a541a7b9a4bc39e26f6"), looks := true }, kinds := [], alts := [], laidByText := true, laidKinds := [.data, .data, .data, .data, .sentinel, .sentinel, .pinned], laidTests := true, laidLooks := .later }
def PrivacyNoTraceCardSaid : Prop := Claim7.holds Tryz.pinned (.plain (OpenSpec.ofChange privacyNoTraceSpec)) privacyNoTraceCard

/-- THE TIED CARD OF 'gazetteerlaw55.PrivacyChanged'. -/
def privacyChangedCard : Claim7 := { stood := { row := privacyChangedRow, standIns := [], harness := (true, "1bb2359057b982f883dc8947ac79bc8276bd61cc04c87a541a7b9a4bc39e26f6"), looks := true }, kinds := [], alts := [], laidByText := true, laidKinds := [.data, .data, .data, .data, .sentinel, .sentinel, .pinned], laidTests := true, laidLooks := .later }
def PrivacyChangedCardSaid : Prop := Claim7.holds Tryz.pinned (.plain (OpenSpec.ofChange privacyChangedSpec)) privacyChangedCard

/-- THE TIED CARD OF 'gazetteerlaw55.PrivacyMatchesReference'. -/
def privacyMatchesReferenceCard : Claim7 := { stood := { row := privacyMatchesReferenceRow, standIns := [], harness := (true, "1bb2359057b982f883dc8947ac79bc8276bd61cc04c87a541a7b9a4bc39e26f6"), looks := true }, kinds := [], alts := [], laidByText := true, laidKinds := [.data, .data, .data, .data, .sentinel, .sentinel, .pinned], laidTests := true, laidLooks := .later }
def PrivacyMatchesReferenceCardSaid : Prop := Claim7.holds Tryz.pinned (.plain (OpenSpec.ofChange privacyMatchesReferenceSpec)) privacyMatchesReferenceCard

/-- THE TIED CARD OF 'gazetteerlaw55.PrivacyOrders'. -/
def privacyOrdersCard : Claim7 := { stood := { row := privacyOrdersRow, standIns := [], harness := (true, "1bb2359057b982f883dc8947ac79bc8276bd61cc04c87a541a7b9a4bc39e26f6"), looks := true }, kinds := [], alts := [], laidByText := true, laidKinds := [.data, .data, .data, .data, .sentinel, .sentinel, .pinned], laidTests := true, laidLooks := .later }
def PrivacyOrdersCardSaid : Prop := Claim7.holds Tryz.pinned (.plain (OpenSpec.ofChange privacyOrdersSpec)) privacyOrdersCard

/-- THE TIED CARD OF 'gazetteerlaw55.PrivacyEvidence'. -/
def privacyEvidenceCard : Claim7 := { stood := { row := privacyEvidenceRow, standIns := [], harness := (true, "1bb2359057b982f883dc8947ac79bc8276bd61cc04c87a541a7b9a4bc39e26f6"), looks := true }, kinds := [], alts := [], laidByText := true, laidKinds := [.data, .data, .data, .data, .sentinel, .sentinel, .pinned], laidTests := true, laidLooks := .later }
def PrivacyEvidenceCardSaid : Prop := Claim7.holds Tryz.pinned (.plain (OpenSpec.ofChange privacyEvidenceSpec)) privacyEvidenceCard

/-- THE SECOND FORM's CARD OF 'gazetteerlaw55.PrivacySameLog'. -/
def privacySameLogUptoCard : Claim7 := { stood := { row := privacySameLogUptoRow, standIns := [], harness := (true, "1bb2359057b982f883dc8947ac79bc8276bd61cc04c87a541a7b9a4bc39e26f6"), looks := true }, kinds := [], alts := [], laidByText := true, laidKinds := [.data, .data, .data, .data, .sentinel, .sentinel, .pinned], laidTests := true, laidLooks := .later }
def PrivacySameLogUptoCardSaid : Prop := Claim7.holds Tryz.pinned (.plain (OpenSpec.upto privacySameLogSpec)) privacySameLogUptoCard

/-- THE SECOND FORM's CARD OF 'gazetteerlaw55.PrivacyNothingLeft'. -/
def privacyNothingLeftUptoCard : Claim7 := { stood := { row := privacyNothingLeftUptoRow, standIns := [], harness := (true, "1bb2359057b982f883dc8947ac79bc8276bd61cc04c87a541a7b9a4bc39e26f6"), looks := true }, kinds := [], alts := [], laidByText := true, laidKinds := [.data, .data, .data, .data, .sentinel, .sentinel, .pinned], laidTests := true, laidLooks := .later }
def PrivacyNothingLeftUptoCardSaid : Prop := Claim7.holds Tryz.pinned (.plain (OpenSpec.upto privacyNothingLeftSpec)) privacyNothingLeftUptoCard

/-- THE SECOND FORM's CARD OF 'gazetteerlaw55.PrivacyOnce'. -/
def privacyOnceUptoCard : Claim7 := { stood := { row := privacyOnceUptoRow, standIns := [], harness := (true, "1bb2359057b982f883dc8947ac79bc8276bd61cc04c87a541a7b9a4bc39e26f6"), looks := true }, kinds := [], alts := [], laidByText := true, laidKinds := [.data, .data, .data, .data, .sentinel, .sentinel, .pinned], laidTests := true, laidLooks := .later }
def PrivacyOnceUptoCardSaid : Prop := Claim7.holds Tryz.pinned (.plain (OpenSpec.upto privacyOnceSpec)) privacyOnceUptoCard

/-- THE SECOND FORM's CARD OF 'gazetteerlaw55.PrivacyNoTrace'. -/
def privacyNoTraceUptoCard : Claim7 := { stood := { row := privacyNoTraceUptoRow, standIns := [], harness := (true, "1bb2359057b982f883dc8947ac79bc8276bd61cc04c87a541a7b9a4bc39e26f6"), looks := true }, kinds := [], alts := [], laidByText := true, laidKinds := [.data, .data, .data, .data, .sentinel, .sentinel, .pinned], laidTests := true, laidLooks := .later }
def PrivacyNoTraceUptoCardSaid : Prop := Claim7.holds Tryz.pinned (.plain (OpenSpec.upto privacyNoTraceSpec)) privacyNoTraceUptoCard

/-- THE SECOND FORM's CARD OF 'gazetteerlaw55.PrivacyChanged'. -/
def privacyChangedUptoCard : Claim7 := { stood := { row := privacyChangedUptoRow, standIns := [], harness := (true, "1bb2359057b982f883dc8947ac79bc8276bd61cc04c87a541a7b9a4bc39e26f6"), looks := true }, kinds := [], alts := [], laidByText := true, laidKinds := [.data, .data, .data, .data, .sentinel, .sentinel, .pinned], laidTests := true, laidLooks := .later }
def PrivacyChangedUptoCardSaid : Prop := Claim7.holds Tryz.pinned (.plain (OpenSpec.upto privacyChangedSpec)) privacyChangedUptoCard

/-- THE SECOND FORM's CARD OF 'gazetteerlaw55.PrivacyMatchesReference'. -/
def privacyMatchesReferenceUptoCard : Claim7 := { stood := { row := privacyMatchesReferenceUptoRow, standIns := [], harness := (true, "1bb2359057b982f883dc8947ac79bc8276bd61cc04c87a541a7b9a4bc39e26f6"), looks := true }, kinds := [], alts := [], laidByText := true, laidKinds := [.data, .data, .data, .data, .sentinel, .sentinel, .pinned], laidTests := true, laidLooks := .later }
def PrivacyMatchesReferenceUptoCardSaid : Prop := Claim7.holds Tryz.pinned (.plain (OpenSpec.upto privacyMatchesReferenceSpec)) privacyMatchesReferenceUptoCard

/-- THE SECOND FORM's CARD OF 'gazetteerlaw55.PrivacyOrders'. -/
def privacyOrdersUptoCard : Claim7 := { stood := { row := privacyOrdersUptoRow, standIns := [], harness := (true, "1bb2359057b982f883dc8947ac79bc8276bd61cc04c87a541a7b9a4bc39e26f6"), looks := true }, kinds := [], alts := [], laidByText := true, laidKinds := [.data, .data, .data, .data, .sentinel, .sentinel, .pinned], laidTests := true, laidLooks := .later }
def PrivacyOrdersUptoCardSaid : Prop := Claim7.holds Tryz.pinned (.plain (OpenSpec.upto privacyOrdersSpec)) privacyOrdersUptoCard

/-- THE SECOND FORM's CARD OF 'gazetteerlaw55.PrivacyEvidence'. -/
def privacyEvidenceUptoCard : Claim7 := { stood := { row := privacyEvidenceUptoRow, standIns := [], harness := (true, "1bb2359057b982f883dc8947ac79bc8276bd61cc04c87a541a7b9a4bc39e26f6"), looks := true }, kinds := [], alts := [], laidByText := true, laidKinds := [.data, .data, .data, .data, .sentinel, .sentinel, .pinned], laidTests := true, laidLooks := .later }
def PrivacyEvidenceUptoCardSaid : Prop := Claim7.holds Tryz.pinned (.plain (OpenSpec.upto privacyEvidenceSpec)) privacyEvidenceUptoCard
end Rows
end Go.Proofs.YtdiebacfbhjbdaaGreatDoor
