/-
  DERIVED. GIVEN WITH THE SEED: THE CARDS: each row of YtcncdepjbhnknaaGreatDoorRows.lean that lists a variable, with what it lists TIED to the program's text (the seventh form; the later family's looks); each row that meets fmt, with fmt's text TOLD by the authors' own Lean function (tested against real Go, not proved from fmt's source: count such statements apart). THE CARD IS WHAT COUNTS. Prove the row's statement (the work); the ties are given (YtcncdepjbhnknaaGreatDoorTie.lean); close each card by the builder's one call (the guide's Derived/Test/ToyasCard.lean, 'card_holds'). Laid BY PROGRAM, IN A SANDBOX (cutbox-door.mjs). By AI agents, Wed Nov 11 2026. No macro, syntax, notation, axiom, sorry.
-/
import Derived.Test.YtcncdepjbhnknaaGreatDoorRows
import GoSem.ClaimSeven
namespace Go.Proofs.YtcncdepjbhnknaaGreatDoor
namespace Rows

/-- THE TIED CARD OF 'cressetlaw06.DetectWidths'. -/
def detectWidthsCard : Claim7 := { stood := { row := detectWidthsRow, standIns := [], harness := (true, "d2b150c1946c734f3056ce9f0dcc564a30ebf7713aecd9c4ea30a869290722c1"), looks := true }, kinds := [], alts := [], laidByText := true, laidKinds := [.data, .data, .data, .data, .sentinel, .sentinel, .data, .data, .pinned], laidTests := true, laidLooks := .later }
def DetectWidthsCardSaid : Prop := Claim7.holds Tryz.pinned (.plain (OpenSpec.ofChange detectWidthsSpec)) detectWidthsCard

/-- THE TIED CARD OF 'cressetlaw06.DetectCurves'. -/
def detectCurvesCard : Claim7 := { stood := { row := detectCurvesRow, standIns := [], harness := (true, "d2b150c1946c734f3056ce9f0dcc564a30ebf7713aecd9c4ea30a869290722c1"), looks := true }, kinds := [], alts := [], laidByText := true, laidKinds := [.data, .data, .data, .data, .sentinel, .sentinel, .data, .data, .pinned], laidTests := true, laidLooks := .later }
def DetectCurvesCardSaid : Prop := Claim7.holds Tryz.pinned (.plain (OpenSpec.ofChange detectCurvesSpec)) detectCurvesCard

/-- THE TIED CARD OF 'cressetlaw06.DetectParted'. -/
def detectPartedCard : Claim7 := { stood := { row := detectPartedRow, standIns := [], harness := (true, "d2b150c1946c734f3056ce9f0dcc564a30ebf7713aecd9c4ea30a869290722c1"), looks := true }, kinds := [], alts := [], laidByText := true, laidKinds := [.data, .data, .data, .data, .sentinel, .sentinel, .data, .data, .pinned], laidTests := true, laidLooks := .later }
def DetectPartedCardSaid : Prop := Claim7.holds Tryz.pinned (.plain (OpenSpec.ofChange detectPartedSpec)) detectPartedCard

/-- THE TIED CARD OF 'cressetlaw06.DetectNeeds'. -/
def detectNeedsCard : Claim7 := { stood := { row := detectNeedsRow, standIns := [], harness := (true, "d2b150c1946c734f3056ce9f0dcc564a30ebf7713aecd9c4ea30a869290722c1"), looks := true }, kinds := [], alts := [], laidByText := true, laidKinds := [.data, .data, .data, .data, .sentinel, .sentinel, .data, .data, .pinned], laidTests := true, laidLooks := .later }
def DetectNeedsCardSaid : Prop := Claim7.holds Tryz.pinned (.plain (OpenSpec.ofChange detectNeedsSpec)) detectNeedsCard

/-- THE TIED CARD OF 'cressetlaw06.DetectWorse'. -/
def detectWorseCard : Claim7 := { stood := { row := detectWorseRow, standIns := [], harness := (true, "d2b150c1946c734f3056ce9f0dcc564a30ebf7713aecd9c4ea30a869290722c1"), looks := true }, kinds := [], alts := [], laidByText := true, laidKinds := [.data, .data, .data, .data, .sentinel, .sentinel, .data, .data, .pinned], laidTests := true, laidLooks := .later }
def DetectWorseCardSaid : Prop := Claim7.holds Tryz.pinned (.plain (OpenSpec.ofChange detectWorseSpec)) detectWorseCard

/-- THE TIED CARD OF 'cressetlaw06.DetectCovers'. -/
def detectCoversCard : Claim7 := { stood := { row := detectCoversRow, standIns := [], harness := (true, "d2b150c1946c734f3056ce9f0dcc564a30ebf7713aecd9c4ea30a869290722c1"), looks := true }, kinds := [], alts := [], laidByText := true, laidKinds := [.data, .data, .data, .data, .sentinel, .sentinel, .data, .data, .pinned], laidTests := true, laidLooks := .later }
def DetectCoversCardSaid : Prop := Claim7.holds Tryz.pinned (.plain (OpenSpec.ofChange detectCoversSpec)) detectCoversCard

/-- THE TIED CARD OF 'cressetlaw06.DetectChances'. -/
def detectChancesCard : Claim7 := { stood := { row := detectChancesRow, standIns := [], harness := (true, "d2b150c1946c734f3056ce9f0dcc564a30ebf7713aecd9c4ea30a869290722c1"), looks := true }, kinds := [], alts := [], laidByText := true, laidKinds := [.data, .data, .data, .data, .sentinel, .sentinel, .data, .data, .pinned], laidTests := true, laidLooks := .later }
def DetectChancesCardSaid : Prop := Claim7.holds Tryz.pinned (.plain (OpenSpec.ofChange detectChancesSpec)) detectChancesCard

/-- THE TIED CARD OF 'cressetlaw06.DetectConcave'. -/
def detectConcaveCard : Claim7 := { stood := { row := detectConcaveRow, standIns := [], harness := (true, "d2b150c1946c734f3056ce9f0dcc564a30ebf7713aecd9c4ea30a869290722c1"), looks := true }, kinds := [], alts := [], laidByText := true, laidKinds := [.data, .data, .data, .data, .sentinel, .sentinel, .data, .data, .pinned], laidTests := true, laidLooks := .later }
def DetectConcaveCardSaid : Prop := Claim7.holds Tryz.pinned (.plain (OpenSpec.ofChange detectConcaveSpec)) detectConcaveCard

/-- THE TIED CARD OF 'cressetlaw06.DetectMisses'. -/
def detectMissesCard : Claim7 := { stood := { row := detectMissesRow, standIns := [], harness := (true, "d2b150c1946c734f3056ce9f0dcc564a30ebf7713aecd9c4ea30a869290722c1"), looks := true }, kinds := [], alts := [], laidByText := true, laidKinds := [.data, .data, .data, .data, .sentinel, .sentinel, .data, .data, .pinned], laidTests := true, laidLooks := .later }
def DetectMissesCardSaid : Prop := Claim7.holds Tryz.pinned (.plain (OpenSpec.ofChange detectMissesSpec)) detectMissesCard

/-- THE TIED CARD OF 'cressetlaw06.DetectRepeats'. -/
def detectRepeatsCard : Claim7 := { stood := { row := detectRepeatsRow, standIns := [], harness := (true, "d2b150c1946c734f3056ce9f0dcc564a30ebf7713aecd9c4ea30a869290722c1"), looks := true }, kinds := [], alts := [], laidByText := true, laidKinds := [.data, .data, .data, .data, .sentinel, .sentinel, .data, .data, .pinned], laidTests := true, laidLooks := .later }
def DetectRepeatsCardSaid : Prop := Claim7.holds Tryz.pinned (.plain (OpenSpec.ofChange detectRepeatsSpec)) detectRepeatsCard

/-- THE TIED CARD OF 'cressetlaw06.DetectNames'. -/
def detectNamesCard : Claim7 := { stood := { row := detectNamesRow, standIns := [], harness := (true, "d2b150c1946c734f3056ce9f0dcc564a30ebf7713aecd9c4ea30a869290722c1"), looks := true }, kinds := [], alts := [], laidByText := true, laidKinds := [.data, .data, .data, .data, .sentinel, .sentinel, .data, .data, .pinned], laidTests := true, laidLooks := .later }
def DetectNamesCardSaid : Prop := Claim7.holds Tryz.pinned (.plain (OpenSpec.ofChange detectNamesSpec)) detectNamesCard

/-- THE SECOND FORM's CARD OF 'cressetlaw06.DetectWidths'. -/
def detectWidthsUptoCard : Claim7 := { stood := { row := detectWidthsUptoRow, standIns := [], harness := (true, "d2b150c1946c734f3056ce9f0dcc564a30ebf7713aecd9c4ea30a869290722c1"), looks := true }, kinds := [], alts := [], laidByText := true, laidKinds := [.data, .data, .data, .data, .sentinel, .sentinel, .data, .data, .pinned], laidTests := true, laidLooks := .later }
def DetectWidthsUptoCardSaid : Prop := Claim7.holds Tryz.pinned (.plain (OpenSpec.upto detectWidthsSpec)) detectWidthsUptoCard

/-- THE SECOND FORM's CARD OF 'cressetlaw06.DetectCurves'. -/
def detectCurvesUptoCard : Claim7 := { stood := { row := detectCurvesUptoRow, standIns := [], harness := (true, "d2b150c1946c734f3056ce9f0dcc564a30ebf7713aecd9c4ea30a869290722c1"), looks := true }, kinds := [], alts := [], laidByText := true, laidKinds := [.data, .data, .data, .data, .sentinel, .sentinel, .data, .data, .pinned], laidTests := true, laidLooks := .later }
def DetectCurvesUptoCardSaid : Prop := Claim7.holds Tryz.pinned (.plain (OpenSpec.upto detectCurvesSpec)) detectCurvesUptoCard

/-- THE SECOND FORM's CARD OF 'cressetlaw06.DetectParted'. -/
def detectPartedUptoCard : Claim7 := { stood := { row := detectPartedUptoRow, standIns := [], harness := (true, "d2b150c1946c734f3056ce9f0dcc564a30ebf7713aecd9c4ea30a869290722c1"), looks := true }, kinds := [], alts := [], laidByText := true, laidKinds := [.data, .data, .data, .data, .sentinel, .sentinel, .data, .data, .pinned], laidTests := true, laidLooks := .later }
def DetectPartedUptoCardSaid : Prop := Claim7.holds Tryz.pinned (.plain (OpenSpec.upto detectPartedSpec)) detectPartedUptoCard

/-- THE SECOND FORM's CARD OF 'cressetlaw06.DetectNeeds'. -/
def detectNeedsUptoCard : Claim7 := { stood := { row := detectNeedsUptoRow, standIns := [], harness := (true, "d2b150c1946c734f3056ce9f0dcc564a30ebf7713aecd9c4ea30a869290722c1"), looks := true }, kinds := [], alts := [], laidByText := true, laidKinds := [.data, .data, .data, .data, .sentinel, .sentinel, .data, .data, .pinned], laidTests := true, laidLooks := .later }
def DetectNeedsUptoCardSaid : Prop := Claim7.holds Tryz.pinned (.plain (OpenSpec.upto detectNeedsSpec)) detectNeedsUptoCard

/-- THE SECOND FORM's CARD OF 'cressetlaw06.DetectWorse'. -/
def detectWorseUptoCard : Claim7 := { stood := { row := detectWorseUptoRow, standIns := [], harness := (true, "d2b150c1946c734f3056ce9f0dcc564a30ebf7713aecd9c4ea30a869290722c1"), looks := true }, kinds := [], alts := [], laidByText := true, laidKinds := [.data, .data, .data, .data, .sentinel, .sentinel, .data, .data, .pinned], laidTests := true, laidLooks := .later }
def DetectWorseUptoCardSaid : Prop := Claim7.holds Tryz.pinned (.plain (OpenSpec.upto detectWorseSpec)) detectWorseUptoCard

/-- THE SECOND FORM's CARD OF 'cressetlaw06.DetectCovers'. -/
def detectCoversUptoCard : Claim7 := { stood := { row := detectCoversUptoRow, standIns := [], harness := (true, "d2b150c1946c734f3056ce9f0dcc564a30ebf7713aecd9c4ea30a869290722c1"), looks := true }, kinds := [], alts := [], laidByText := true, laidKinds := [.data, .data, .data, .data, .sentinel, .sentinel, .data, .data, .pinned], laidTests := true, laidLooks := .later }
def DetectCoversUptoCardSaid : Prop := Claim7.holds Tryz.pinned (.plain (OpenSpec.upto detectCoversSpec)) detectCoversUptoCard

/-- THE SECOND FORM's CARD OF 'cressetlaw06.DetectChances'. -/
def detectChancesUptoCard : Claim7 := { stood := { row := detectChancesUptoRow, standIns := [], harness := (true, "d2b150c1946c734f3056ce9f0dcc564a30ebf7713aecd9c4ea30a869290722c1"), looks := true }, kinds := [], alts := [], laidByText := true, laidKinds := [.data, .data, .data, .data, .sentinel, .sentinel, .data, .data, .pinned], laidTests := true, laidLooks := .later }
def DetectChancesUptoCardSaid : Prop := Claim7.holds Tryz.pinned (.plain (OpenSpec.upto detectChancesSpec)) detectChancesUptoCard

/-- THE SECOND FORM's CARD OF 'cressetlaw06.DetectConcave'. -/
def detectConcaveUptoCard : Claim7 := { stood := { row := detectConcaveUptoRow, standIns := [], harness := (true, "d2b150c1946c734f3056ce9f0dcc564a30ebf7713aecd9c4ea30a869290722c1"), looks := true }, kinds := [], alts := [], laidByText := true, laidKinds := [.data, .data, .data, .data, .sentinel, .sentinel, .data, .data, .pinned], laidTests := true, laidLooks := .later }
def DetectConcaveUptoCardSaid : Prop := Claim7.holds Tryz.pinned (.plain (OpenSpec.upto detectConcaveSpec)) detectConcaveUptoCard

/-- THE SECOND FORM's CARD OF 'cressetlaw06.DetectMisses'. -/
def detectMissesUptoCard : Claim7 := { stood := { row := detectMissesUptoRow, standIns := [], harness := (true, "d2b150c1946c734f3056ce9f0dcc564a30ebf7713aecd9c4ea30a869290722c1"), looks := true }, kinds := [], alts := [], laidByText := true, laidKinds := [.data, .data, .data, .data, .sentinel, .sentinel, .data, .data, .pinned], laidTests := true, laidLooks := .later }
def DetectMissesUptoCardSaid : Prop := Claim7.holds Tryz.pinned (.plain (OpenSpec.upto detectMissesSpec)) detectMissesUptoCard

/-- THE SECOND FORM's CARD OF 'cressetlaw06.DetectRepeats'. -/
def detectRepeatsUptoCard : Claim7 := { stood := { row := detectRepeatsUptoRow, standIns := [], harness := (true, "d2b150c1946c734f3056ce9f0dcc564a30ebf7713aecd9c4ea30a869290722c1"), looks := true }, kinds := [], alts := [], laidByText := true, laidKinds := [.data, .data, .data, .data, .sentinel, .sentinel, .data, .data, .pinned], laidTests := true, laidLooks := .later }
def DetectRepeatsUptoCardSaid : Prop := Claim7.holds Tryz.pinned (.plain (OpenSpec.upto detectRepeatsSpec)) detectRepeatsUptoCard

/-- THE SECOND FORM's CARD OF 'cressetlaw06.DetectNames'. -/
def detectNamesUptoCard : Claim7 := { stood := { row := detectNamesUptoRow, standIns := [], harness := (true, "d2b150c1946c734f3056ce9f0dcc564a30ebf7713aecd9c4ea30a869290722c1"), looks := true }, kinds := [], alts := [], laidByText := true, laidKinds := [.data, .data, .data, .data, .sentinel, .sentinel, .data, .data, .pinned], laidTests := true, laidLooks := .later }
def DetectNamesUptoCardSaid : Prop := Claim7.holds Tryz.pinned (.plain (OpenSpec.upto detectNamesSpec)) detectNamesUptoCard
end Rows
end Go.Proofs.YtcncdepjbhnknaaGreatDoor
