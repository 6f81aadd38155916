/-
  DERIVED. GIVEN WITH THE SEED: THE CARDS: each row of YtmpaflidennnoaaGreatDoorRows.lean that lists a variable, with what it lists TIED to the program's text (the seventh form; the later family's looks); each row that meets fmt, with fmt's text TOLD by the authors' own Lean function (tested against real Go, not proved from fmt's source: count such statements apart). THE CARD IS WHAT COUNTS. Prove the row's statement (the work); the ties are given (YtmpaflidennnoaaGreatDoorTie.lean); close each card by the builder's one call (the guide's Derived/Test/ToyasCard.lean, 'card_holds'). Laid BY PROGRAM, IN A SANDBOX (cutbox-door.mjs). By AI agents, Wed Nov 11 2026. No macro, syntax, notation, axiom, sorry.
-/
import Derived.Test.YtmpaflidennnoaaGreatDoorRows
import GoSem.ClaimSeven
namespace Go.Proofs.YtmpaflidennnoaaGreatDoor
namespace Rows

/-- THE TIED CARD OF 'cressetlaw07.EffortGreedy'. -/
def effortGreedyCard : Claim7 := { stood := { row := effortGreedyRow, standIns := [], harness := (true, "57106b2d6c60c7effd63eb7f4d2cc558ecf88b2138b92666b8a787f9bf095d7f"), looks := true }, kinds := [], alts := [], laidByText := true, laidKinds := [.data, .data, .data, .data, .sentinel, .sentinel, .data, .data, .data, .pinned], laidTests := true, laidLooks := .later }
def EffortGreedyCardSaid : Prop := Claim7.holds Tryz.pinned (.plain (OpenSpec.ofChange effortGreedySpec)) effortGreedyCard

/-- THE TIED CARD OF 'cressetlaw07.EffortBound'. -/
def effortBoundCard : Claim7 := { stood := { row := effortBoundRow, standIns := [], harness := (true, "57106b2d6c60c7effd63eb7f4d2cc558ecf88b2138b92666b8a787f9bf095d7f"), looks := true }, kinds := [], alts := [], laidByText := true, laidKinds := [.data, .data, .data, .data, .sentinel, .sentinel, .data, .data, .data, .pinned], laidTests := true, laidLooks := .later }
def EffortBoundCardSaid : Prop := Claim7.holds Tryz.pinned (.plain (OpenSpec.ofChange effortBoundSpec)) effortBoundCard

/-- THE TIED CARD OF 'cressetlaw07.EffortOne'. -/
def effortOneCard : Claim7 := { stood := { row := effortOneRow, standIns := [], harness := (true, "57106b2d6c60c7effd63eb7f4d2cc558ecf88b2138b92666b8a787f9bf095d7f"), looks := true }, kinds := [], alts := [], laidByText := true, laidKinds := [.data, .data, .data, .data, .sentinel, .sentinel, .data, .data, .data, .pinned], laidTests := true, laidLooks := .later }
def EffortOneCardSaid : Prop := Claim7.holds Tryz.pinned (.plain (OpenSpec.ofChange effortOneSpec)) effortOneCard

/-- THE TIED CARD OF 'cressetlaw07.EffortValues'. -/
def effortValuesCard : Claim7 := { stood := { row := effortValuesRow, standIns := [], harness := (true, "57106b2d6c60c7effd63eb7f4d2cc558ecf88b2138b92666b8a787f9bf095d7f"), looks := true }, kinds := [], alts := [], laidByText := true, laidKinds := [.data, .data, .data, .data, .sentinel, .sentinel, .data, .data, .data, .pinned], laidTests := true, laidLooks := .later }
def EffortValuesCardSaid : Prop := Claim7.holds Tryz.pinned (.plain (OpenSpec.ofChange effortValuesSpec)) effortValuesCard

/-- THE TIED CARD OF 'cressetlaw07.EffortPrices'. -/
def effortPricesCard : Claim7 := { stood := { row := effortPricesRow, standIns := [], harness := (true, "57106b2d6c60c7effd63eb7f4d2cc558ecf88b2138b92666b8a787f9bf095d7f"), looks := true }, kinds := [], alts := [], laidByText := true, laidKinds := [.data, .data, .data, .data, .sentinel, .sentinel, .data, .data, .data, .pinned], laidTests := true, laidLooks := .later }
def EffortPricesCardSaid : Prop := Claim7.holds Tryz.pinned (.plain (OpenSpec.ofChange effortPricesSpec)) effortPricesCard

/-- THE TIED CARD OF 'cressetlaw07.EffortImproves'. -/
def effortImprovesCard : Claim7 := { stood := { row := effortImprovesRow, standIns := [], harness := (true, "57106b2d6c60c7effd63eb7f4d2cc558ecf88b2138b92666b8a787f9bf095d7f"), looks := true }, kinds := [], alts := [], laidByText := true, laidKinds := [.data, .data, .data, .data, .sentinel, .sentinel, .data, .data, .data, .pinned], laidTests := true, laidLooks := .later }
def EffortImprovesCardSaid : Prop := Claim7.holds Tryz.pinned (.plain (OpenSpec.ofChange effortImprovesSpec)) effortImprovesCard

/-- THE TIED CARD OF 'cressetlaw07.EffortBetter'. -/
def effortBetterCard : Claim7 := { stood := { row := effortBetterRow, standIns := [], harness := (true, "57106b2d6c60c7effd63eb7f4d2cc558ecf88b2138b92666b8a787f9bf095d7f"), looks := true }, kinds := [], alts := [], laidByText := true, laidKinds := [.data, .data, .data, .data, .sentinel, .sentinel, .data, .data, .data, .pinned], laidTests := true, laidLooks := .later }
def EffortBetterCardSaid : Prop := Claim7.holds Tryz.pinned (.plain (OpenSpec.ofChange effortBetterSpec)) effortBetterCard

/-- THE TIED CARD OF 'cressetlaw07.EffortHours'. -/
def effortHoursCard : Claim7 := { stood := { row := effortHoursRow, standIns := [], harness := (true, "57106b2d6c60c7effd63eb7f4d2cc558ecf88b2138b92666b8a787f9bf095d7f"), looks := true }, kinds := [], alts := [], laidByText := true, laidKinds := [.data, .data, .data, .data, .sentinel, .sentinel, .data, .data, .data, .pinned], laidTests := true, laidLooks := .later }
def EffortHoursCardSaid : Prop := Claim7.holds Tryz.pinned (.plain (OpenSpec.ofChange effortHoursSpec)) effortHoursCard

/-- THE TIED CARD OF 'cressetlaw07.EffortSolves'. -/
def effortSolvesCard : Claim7 := { stood := { row := effortSolvesRow, standIns := [], harness := (true, "57106b2d6c60c7effd63eb7f4d2cc558ecf88b2138b92666b8a787f9bf095d7f"), looks := true }, kinds := [], alts := [], laidByText := true, laidKinds := [.data, .data, .data, .data, .sentinel, .sentinel, .data, .data, .data, .pinned], laidTests := true, laidLooks := .later }
def EffortSolvesCardSaid : Prop := Claim7.holds Tryz.pinned (.plain (OpenSpec.ofChange effortSolvesSpec)) effortSolvesCard

/-- THE TIED CARD OF 'cressetlaw07.EffortBest'. -/
def effortBestCard : Claim7 := { stood := { row := effortBestRow, standIns := [], harness := (true, "57106b2d6c60c7effd63eb7f4d2cc558ecf88b2138b92666b8a787f9bf095d7f"), looks := true }, kinds := [], alts := [], laidByText := true, laidKinds := [.data, .data, .data, .data, .sentinel, .sentinel, .data, .data, .data, .pinned], laidTests := true, laidLooks := .later }
def EffortBestCardSaid : Prop := Claim7.holds Tryz.pinned (.plain (OpenSpec.ofChange effortBestSpec)) effortBestCard

/-- THE TIED CARD OF 'cressetlaw07.EffortNames'. -/
def effortNamesCard : Claim7 := { stood := { row := effortNamesRow, standIns := [], harness := (true, "57106b2d6c60c7effd63eb7f4d2cc558ecf88b2138b92666b8a787f9bf095d7f"), looks := true }, kinds := [], alts := [], laidByText := true, laidKinds := [.data, .data, .data, .data, .sentinel, .sentinel, .data, .data, .data, .pinned], laidTests := true, laidLooks := .later }
def EffortNamesCardSaid : Prop := Claim7.holds Tryz.pinned (.plain (OpenSpec.ofChange effortNamesSpec)) effortNamesCard

/-- THE SECOND FORM's CARD OF 'cressetlaw07.EffortGreedy'. -/
def effortGreedyUptoCard : Claim7 := { stood := { row := effortGreedyUptoRow, standIns := [], harness := (true, "57106b2d6c60c7effd63eb7f4d2cc558ecf88b2138b92666b8a787f9bf095d7f"), looks := true }, kinds := [], alts := [], laidByText := true, laidKinds := [.data, .data, .data, .data, .sentinel, .sentinel, .data, .data, .data, .pinned], laidTests := true, laidLooks := .later }
def EffortGreedyUptoCardSaid : Prop := Claim7.holds Tryz.pinned (.plain (OpenSpec.upto effortGreedySpec)) effortGreedyUptoCard

/-- THE SECOND FORM's CARD OF 'cressetlaw07.EffortBound'. -/
def effortBoundUptoCard : Claim7 := { stood := { row := effortBoundUptoRow, standIns := [], harness := (true, "57106b2d6c60c7effd63eb7f4d2cc558ecf88b2138b92666b8a787f9bf095d7f"), looks := true }, kinds := [], alts := [], laidByText := true, laidKinds := [.data, .data, .data, .data, .sentinel, .sentinel, .data, .data, .data, .pinned], laidTests := true, laidLooks := .later }
def EffortBoundUptoCardSaid : Prop := Claim7.holds Tryz.pinned (.plain (OpenSpec.upto effortBoundSpec)) effortBoundUptoCard

/-- THE SECOND FORM's CARD OF 'cressetlaw07.EffortOne'. -/
def effortOneUptoCard : Claim7 := { stood := { row := effortOneUptoRow, standIns := [], harness := (true, "57106b2d6c60c7effd63eb7f4d2cc558ecf88b2138b92666b8a787f9bf095d7f"), looks := true }, kinds := [], alts := [], laidByText := true, laidKinds := [.data, .data, .data, .data, .sentinel, .sentinel, .data, .data, .data, .pinned], laidTests := true, laidLooks := .later }
def EffortOneUptoCardSaid : Prop := Claim7.holds Tryz.pinned (.plain (OpenSpec.upto effortOneSpec)) effortOneUptoCard

/-- THE SECOND FORM's CARD OF 'cressetlaw07.EffortValues'. -/
def effortValuesUptoCard : Claim7 := { stood := { row := effortValuesUptoRow, standIns := [], harness := (true, "57106b2d6c60c7effd63eb7f4d2cc558ecf88b2138b92666b8a787f9bf095d7f"), looks := true }, kinds := [], alts := [], laidByText := true, laidKinds := [.data, .data, .data, .data, .sentinel, .sentinel, .data, .data, .data, .pinned], laidTests := true, laidLooks := .later }
def EffortValuesUptoCardSaid : Prop := Claim7.holds Tryz.pinned (.plain (OpenSpec.upto effortValuesSpec)) effortValuesUptoCard

/-- THE SECOND FORM's CARD OF 'cressetlaw07.EffortPrices'. -/
def effortPricesUptoCard : Claim7 := { stood := { row := effortPricesUptoRow, standIns := [], harness := (true, "57106b2d6c60c7effd63eb7f4d2cc558ecf88b2138b92666b8a787f9bf095d7f"), looks := true }, kinds := [], alts := [], laidByText := true, laidKinds := [.data, .data, .data, .data, .sentinel, .sentinel, .data, .data, .data, .pinned], laidTests := true, laidLooks := .later }
def EffortPricesUptoCardSaid : Prop := Claim7.holds Tryz.pinned (.plain (OpenSpec.upto effortPricesSpec)) effortPricesUptoCard

/-- THE SECOND FORM's CARD OF 'cressetlaw07.EffortImproves'. -/
def effortImprovesUptoCard : Claim7 := { stood := { row := effortImprovesUptoRow, standIns := [], harness := (true, "57106b2d6c60c7effd63eb7f4d2cc558ecf88b2138b92666b8a787f9bf095d7f"), looks := true }, kinds := [], alts := [], laidByText := true, laidKinds := [.data, .data, .data, .data, .sentinel, .sentinel, .data, .data, .data, .pinned], laidTests := true, laidLooks := .later }
def EffortImprovesUptoCardSaid : Prop := Claim7.holds Tryz.pinned (.plain (OpenSpec.upto effortImprovesSpec)) effortImprovesUptoCard

/-- THE SECOND FORM's CARD OF 'cressetlaw07.EffortBetter'. -/
def effortBetterUptoCard : Claim7 := { stood := { row := effortBetterUptoRow, standIns := [], harness := (true, "57106b2d6c60c7effd63eb7f4d2cc558ecf88b2138b92666b8a787f9bf095d7f"), looks := true }, kinds := [], alts := [], laidByText := true, laidKinds := [.data, .data, .data, .data, .sentinel, .sentinel, .data, .data, .data, .pinned], laidTests := true, laidLooks := .later }
def EffortBetterUptoCardSaid : Prop := Claim7.holds Tryz.pinned (.plain (OpenSpec.upto effortBetterSpec)) effortBetterUptoCard

/-- THE SECOND FORM's CARD OF 'cressetlaw07.EffortHours'. -/
def effortHoursUptoCard : Claim7 := { stood := { row := effortHoursUptoRow, standIns := [], harness := (true, "57106b2d6c60c7effd63eb7f4d2cc558ecf88b2138b92666b8a787f9bf095d7f"), looks := true }, kinds := [], alts := [], laidByText := true, laidKinds := [.data, .data, .data, .data, .sentinel, .sentinel, .data, .data, .data, .pinned], laidTests := true, laidLooks := .later }
def EffortHoursUptoCardSaid : Prop := Claim7.holds Tryz.pinned (.plain (OpenSpec.upto effortHoursSpec)) effortHoursUptoCard

/-- THE SECOND FORM's CARD OF 'cressetlaw07.EffortSolves'. -/
def effortSolvesUptoCard : Claim7 := { stood := { row := effortSolvesUptoRow, standIns := [], harness := (true, "57106b2d6c60c7effd63eb7f4d2cc558ecf88b2138b92666b8a787f9bf095d7f"), looks := true }, kinds := [], alts := [], laidByText := true, laidKinds := [.data, .data, .data, .data, .sentinel, .sentinel, .data, .data, .data, .pinned], laidTests := true, laidLooks := .later }
def EffortSolvesUptoCardSaid : Prop := Claim7.holds Tryz.pinned (.plain (OpenSpec.upto effortSolvesSpec)) effortSolvesUptoCard

/-- THE SECOND FORM's CARD OF 'cressetlaw07.EffortBest'. -/
def effortBestUptoCard : Claim7 := { stood := { row := effortBestUptoRow, standIns := [], harness := (true, "57106b2d6c60c7effd63eb7f4d2cc558ecf88b2138b92666b8a787f9bf095d7f"), looks := true }, kinds := [], alts := [], laidByText := true, laidKinds := [.data, .data, .data, .data, .sentinel, .sentinel, .data, .data, .data, .pinned], laidTests := true, laidLooks := .later }
def EffortBestUptoCardSaid : Prop := Claim7.holds Tryz.pinned (.plain (OpenSpec.upto effortBestSpec)) effortBestUptoCard

/-- THE SECOND FORM's CARD OF 'cressetlaw07.EffortNames'. -/
def effortNamesUptoCard : Claim7 := { stood := { row := effortNamesUptoRow, standIns := [], harness := (true, "57106b2d6c60c7effd63eb7f4d2cc558ecf88b2138b92666b8a787f9bf095d7f"), looks := true }, kinds := [], alts := [], laidByText := true, laidKinds := [.data, .data, .data, .data, .sentinel, .sentinel, .data, .data, .data, .pinned], laidTests := true, laidLooks := .later }
def EffortNamesUptoCardSaid : Prop := Claim7.holds Tryz.pinned (.plain (OpenSpec.upto effortNamesSpec)) effortNamesUptoCard
end Rows
end Go.Proofs.YtmpaflidennnoaaGreatDoor
