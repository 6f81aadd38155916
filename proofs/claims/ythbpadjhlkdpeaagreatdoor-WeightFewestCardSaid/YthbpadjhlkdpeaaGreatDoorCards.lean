/-
  DERIVED. GIVEN WITH THE SEED: THE CARDS: each row of YthbpadjhlkdpeaaGreatDoorRows.lean that lists a variable, with what it lists TIED to the program's text (the seventh form; the later family's looks); each row that meets fmt, with fmt's text TOLD by the authors' own Lean function (tested against real Go, not proved from fmt's source: count such statements apart). THE CARD IS WHAT COUNTS. Prove the row's statement (the work); the ties are given (YthbpadjhlkdpeaaGreatDoorTie.lean); close each card by the builder's one call (the guide's Derived/Test/ToyasCard.lean, 'card_holds'). Laid BY PROGRAM, IN A SANDBOX (cutbox-door.mjs). By AI agents, Wed Nov 11 2026. No macro, syntax, notation, axiom, sorry.
-/
import Derived.Test.YthbpadjhlkdpeaaGreatDoorRows
import GoSem.ClaimSeven
namespace Go.Proofs.YthbpadjhlkdpeaaGreatDoor
namespace Rows

/-- THE TIED CARD OF 'cressetlaw01.WeightProducts'. -/
def weightProductsCard : Claim7 := { stood := { row := weightProductsRow, standIns := [], harness := (true, "ca3c912b95184f0467f5d0c8a3dbf435aa7fe4cd90d125170f9a29eecbd14034"), looks := true }, kinds := [], alts := [], laidByText := true, laidKinds := [.data, .data, .data, .data, .sentinel, .sentinel, .pinned], laidTests := true, laidLooks := .later }
def WeightProductsCardSaid : Prop := Claim7.holds Tryz.pinned (.plain (OpenSpec.ofChange weightProductsSpec)) weightProductsCard

/-- THE TIED CARD OF 'cressetlaw01.WeightUpdates'. -/
def weightUpdatesCard : Claim7 := { stood := { row := weightUpdatesRow, standIns := [], harness := (true, "ca3c912b95184f0467f5d0c8a3dbf435aa7fe4cd90d125170f9a29eecbd14034"), looks := true }, kinds := [], alts := [], laidByText := true, laidKinds := [.data, .data, .data, .data, .sentinel, .sentinel, .pinned], laidTests := true, laidLooks := .later }
def WeightUpdatesCardSaid : Prop := Claim7.holds Tryz.pinned (.plain (OpenSpec.ofChange weightUpdatesSpec)) weightUpdatesCard

/-- THE TIED CARD OF 'cressetlaw01.WeightBayes'. -/
def weightBayesCard : Claim7 := { stood := { row := weightBayesRow, standIns := [], harness := (true, "ca3c912b95184f0467f5d0c8a3dbf435aa7fe4cd90d125170f9a29eecbd14034"), looks := true }, kinds := [], alts := [], laidByText := true, laidKinds := [.data, .data, .data, .data, .sentinel, .sentinel, .pinned], laidTests := true, laidLooks := .later }
def WeightBayesCardSaid : Prop := Claim7.holds Tryz.pinned (.plain (OpenSpec.ofChange weightBayesSpec)) weightBayesCard

/-- THE TIED CARD OF 'cressetlaw01.WeightShares'. -/
def weightSharesCard : Claim7 := { stood := { row := weightSharesRow, standIns := [], harness := (true, "ca3c912b95184f0467f5d0c8a3dbf435aa7fe4cd90d125170f9a29eecbd14034"), looks := true }, kinds := [], alts := [], laidByText := true, laidKinds := [.data, .data, .data, .data, .sentinel, .sentinel, .pinned], laidTests := true, laidLooks := .later }
def WeightSharesCardSaid : Prop := Claim7.holds Tryz.pinned (.plain (OpenSpec.ofChange weightSharesSpec)) weightSharesCard

/-- THE TIED CARD OF 'cressetlaw01.WeightWhole'. -/
def weightWholeCard : Claim7 := { stood := { row := weightWholeRow, standIns := [], harness := (true, "ca3c912b95184f0467f5d0c8a3dbf435aa7fe4cd90d125170f9a29eecbd14034"), looks := true }, kinds := [], alts := [], laidByText := true, laidKinds := [.data, .data, .data, .data, .sentinel, .sentinel, .pinned], laidTests := true, laidLooks := .later }
def WeightWholeCardSaid : Prop := Claim7.holds Tryz.pinned (.plain (OpenSpec.ofChange weightWholeSpec)) weightWholeCard

/-- THE TIED CARD OF 'cressetlaw01.WeightField'. -/
def weightFieldCard : Claim7 := { stood := { row := weightFieldRow, standIns := [], harness := (true, "ca3c912b95184f0467f5d0c8a3dbf435aa7fe4cd90d125170f9a29eecbd14034"), looks := true }, kinds := [], alts := [], laidByText := true, laidKinds := [.data, .data, .data, .data, .sentinel, .sentinel, .pinned], laidTests := true, laidLooks := .later }
def WeightFieldCardSaid : Prop := Claim7.holds Tryz.pinned (.plain (OpenSpec.ofChange weightFieldSpec)) weightFieldCard

/-- THE TIED CARD OF 'cressetlaw01.WeightOrders'. -/
def weightOrdersCard : Claim7 := { stood := { row := weightOrdersRow, standIns := [], harness := (true, "ca3c912b95184f0467f5d0c8a3dbf435aa7fe4cd90d125170f9a29eecbd14034"), looks := true }, kinds := [], alts := [], laidByText := true, laidKinds := [.data, .data, .data, .data, .sentinel, .sentinel, .pinned], laidTests := true, laidLooks := .later }
def WeightOrdersCardSaid : Prop := Claim7.holds Tryz.pinned (.plain (OpenSpec.ofChange weightOrdersSpec)) weightOrdersCard

/-- THE TIED CARD OF 'cressetlaw01.WeightSums'. -/
def weightSumsCard : Claim7 := { stood := { row := weightSumsRow, standIns := [], harness := (true, "ca3c912b95184f0467f5d0c8a3dbf435aa7fe4cd90d125170f9a29eecbd14034"), looks := true }, kinds := [], alts := [], laidByText := true, laidKinds := [.data, .data, .data, .data, .sentinel, .sentinel, .pinned], laidTests := true, laidLooks := .later }
def WeightSumsCardSaid : Prop := Claim7.holds Tryz.pinned (.plain (OpenSpec.ofChange weightSumsSpec)) weightSumsCard

/-- THE TIED CARD OF 'cressetlaw01.WeightNumbers'. -/
def weightNumbersCard : Claim7 := { stood := { row := weightNumbersRow, standIns := [], harness := (true, "ca3c912b95184f0467f5d0c8a3dbf435aa7fe4cd90d125170f9a29eecbd14034"), looks := true }, kinds := [], alts := [], laidByText := true, laidKinds := [.data, .data, .data, .data, .sentinel, .sentinel, .pinned], laidTests := true, laidLooks := .later }
def WeightNumbersCardSaid : Prop := Claim7.holds Tryz.pinned (.plain (OpenSpec.ofChange weightNumbersSpec)) weightNumbersCard

/-- THE TIED CARD OF 'cressetlaw01.WeightTexts'. -/
def weightTextsCard : Claim7 := { stood := { row := weightTextsRow, standIns := [], harness := (true, "ca3c912b95184f0467f5d0c8a3dbf435aa7fe4cd90d125170f9a29eecbd14034"), looks := true }, kinds := [], alts := [], laidByText := true, laidKinds := [.data, .data, .data, .data, .sentinel, .sentinel, .data, .pinned], laidTests := true, laidLooks := .later }
def WeightTextsCardSaid : Prop := Claim7.holds Tryz.pinned (.plain (OpenSpec.ofChange weightTextsSpec)) weightTextsCard

/-- THE TIED CARD OF 'cressetlaw01.WeightFewest'. -/
def weightFewestCard : Claim7 := { stood := { row := weightFewestRow, standIns := [], harness := (true, "ca3c912b95184f0467f5d0c8a3dbf435aa7fe4cd90d125170f9a29eecbd14034"), looks := true }, kinds := [], alts := [], laidByText := true, laidKinds := [.data, .data, .data, .data, .sentinel, .sentinel, .pinned], laidTests := true, laidLooks := .later }
def WeightFewestCardSaid : Prop := Claim7.holds Tryz.pinned (.plain (OpenSpec.ofChange weightFewestSpec)) weightFewestCard

/-- THE TIED CARD OF 'cressetlaw01.WeightBack'. -/
def weightBackCard : Claim7 := { stood := { row := weightBackRow, standIns := [], harness := (true, "ca3c912b95184f0467f5d0c8a3dbf435aa7fe4cd90d125170f9a29eecbd14034"), looks := true }, kinds := [], alts := [], laidByText := true, laidKinds := [.data, .data, .data, .data, .sentinel, .sentinel, .data, .pinned], laidTests := true, laidLooks := .later }
def WeightBackCardSaid : Prop := Claim7.holds Tryz.pinned (.plain (OpenSpec.ofChange weightBackSpec)) weightBackCard

/-- THE TIED CARD OF 'cressetlaw01.WeightNames'. -/
def weightNamesCard : Claim7 := { stood := { row := weightNamesRow, standIns := [], harness := (true, "ca3c912b95184f0467f5d0c8a3dbf435aa7fe4cd90d125170f9a29eecbd14034"), looks := true }, kinds := [], alts := [], laidByText := true, laidKinds := [.data, .data, .data, .data, .sentinel, .sentinel, .data, .pinned], laidTests := true, laidLooks := .later }
def WeightNamesCardSaid : Prop := Claim7.holds Tryz.pinned (.plain (OpenSpec.ofChange weightNamesSpec)) weightNamesCard

/-- THE SECOND FORM's CARD OF 'cressetlaw01.WeightProducts'. -/
def weightProductsUptoCard : Claim7 := { stood := { row := weightProductsUptoRow, standIns := [], harness := (true, "ca3c912b95184f0467f5d0c8a3dbf435aa7fe4cd90d125170f9a29eecbd14034"), looks := true }, kinds := [], alts := [], laidByText := true, laidKinds := [.data, .data, .data, .data, .sentinel, .sentinel, .pinned], laidTests := true, laidLooks := .later }
def WeightProductsUptoCardSaid : Prop := Claim7.holds Tryz.pinned (.plain (OpenSpec.upto weightProductsSpec)) weightProductsUptoCard

/-- THE SECOND FORM's CARD OF 'cressetlaw01.WeightUpdates'. -/
def weightUpdatesUptoCard : Claim7 := { stood := { row := weightUpdatesUptoRow, standIns := [], harness := (true, "ca3c912b95184f0467f5d0c8a3dbf435aa7fe4cd90d125170f9a29eecbd14034"), looks := true }, kinds := [], alts := [], laidByText := true, laidKinds := [.data, .data, .data, .data, .sentinel, .sentinel, .pinned], laidTests := true, laidLooks := .later }
def WeightUpdatesUptoCardSaid : Prop := Claim7.holds Tryz.pinned (.plain (OpenSpec.upto weightUpdatesSpec)) weightUpdatesUptoCard

/-- THE SECOND FORM's CARD OF 'cressetlaw01.WeightBayes'. -/
def weightBayesUptoCard : Claim7 := { stood := { row := weightBayesUptoRow, standIns := [], harness := (true, "ca3c912b95184f0467f5d0c8a3dbf435aa7fe4cd90d125170f9a29eecbd14034"), looks := true }, kinds := [], alts := [], laidByText := true, laidKinds := [.data, .data, .data, .data, .sentinel, .sentinel, .pinned], laidTests := true, laidLooks := .later }
def WeightBayesUptoCardSaid : Prop := Claim7.holds Tryz.pinned (.plain (OpenSpec.upto weightBayesSpec)) weightBayesUptoCard

/-- THE SECOND FORM's CARD OF 'cressetlaw01.WeightShares'. -/
def weightSharesUptoCard : Claim7 := { stood := { row := weightSharesUptoRow, standIns := [], harness := (true, "ca3c912b95184f0467f5d0c8a3dbf435aa7fe4cd90d125170f9a29eecbd14034"), looks := true }, kinds := [], alts := [], laidByText := true, laidKinds := [.data, .data, .data, .data, .sentinel, .sentinel, .pinned], laidTests := true, laidLooks := .later }
def WeightSharesUptoCardSaid : Prop := Claim7.holds Tryz.pinned (.plain (OpenSpec.upto weightSharesSpec)) weightSharesUptoCard

/-- THE SECOND FORM's CARD OF 'cressetlaw01.WeightWhole'. -/
def weightWholeUptoCard : Claim7 := { stood := { row := weightWholeUptoRow, standIns := [], harness := (true, "ca3c912b95184f0467f5d0c8a3dbf435aa7fe4cd90d125170f9a29eecbd14034"), looks := true }, kinds := [], alts := [], laidByText := true, laidKinds := [.data, .data, .data, .data, .sentinel, .sentinel, .pinned], laidTests := true, laidLooks := .later }
def WeightWholeUptoCardSaid : Prop := Claim7.holds Tryz.pinned (.plain (OpenSpec.upto weightWholeSpec)) weightWholeUptoCard

/-- THE SECOND FORM's CARD OF 'cressetlaw01.WeightField'. -/
def weightFieldUptoCard : Claim7 := { stood := { row := weightFieldUptoRow, standIns := [], harness := (true, "ca3c912b95184f0467f5d0c8a3dbf435aa7fe4cd90d125170f9a29eecbd14034"), looks := true }, kinds := [], alts := [], laidByText := true, laidKinds := [.data, .data, .data, .data, .sentinel, .sentinel, .pinned], laidTests := true, laidLooks := .later }
def WeightFieldUptoCardSaid : Prop := Claim7.holds Tryz.pinned (.plain (OpenSpec.upto weightFieldSpec)) weightFieldUptoCard

/-- THE SECOND FORM's CARD OF 'cressetlaw01.WeightOrders'. -/
def weightOrdersUptoCard : Claim7 := { stood := { row := weightOrdersUptoRow, standIns := [], harness := (true, "ca3c912b95184f0467f5d0c8a3dbf435aa7fe4cd90d125170f9a29eecbd14034"), looks := true }, kinds := [], alts := [], laidByText := true, laidKinds := [.data, .data, .data, .data, .sentinel, .sentinel, .pinned], laidTests := true, laidLooks := .later }
def WeightOrdersUptoCardSaid : Prop := Claim7.holds Tryz.pinned (.plain (OpenSpec.upto weightOrdersSpec)) weightOrdersUptoCard

/-- THE SECOND FORM's CARD OF 'cressetlaw01.WeightSums'. -/
def weightSumsUptoCard : Claim7 := { stood := { row := weightSumsUptoRow, standIns := [], harness := (true, "ca3c912b95184f0467f5d0c8a3dbf435aa7fe4cd90d125170f9a29eecbd14034"), looks := true }, kinds := [], alts := [], laidByText := true, laidKinds := [.data, .data, .data, .data, .sentinel, .sentinel, .pinned], laidTests := true, laidLooks := .later }
def WeightSumsUptoCardSaid : Prop := Claim7.holds Tryz.pinned (.plain (OpenSpec.upto weightSumsSpec)) weightSumsUptoCard

/-- THE SECOND FORM's CARD OF 'cressetlaw01.WeightNumbers'. -/
def weightNumbersUptoCard : Claim7 := { stood := { row := weightNumbersUptoRow, standIns := [], harness := (true, "ca3c912b95184f0467f5d0c8a3dbf435aa7fe4cd90d125170f9a29eecbd14034"), looks := true }, kinds := [], alts := [], laidByText := true, laidKinds := [.data, .data, .data, .data, .sentinel, .sentinel, .pinned], laidTests := true, laidLooks := .later }
def WeightNumbersUptoCardSaid : Prop := Claim7.holds Tryz.pinned (.plain (OpenSpec.upto weightNumbersSpec)) weightNumbersUptoCard

/-- THE SECOND FORM's CARD OF 'cressetlaw01.WeightTexts'. -/
def weightTextsUptoCard : Claim7 := { stood := { row := weightTextsUptoRow, standIns := [], harness := (true, "ca3c912b95184f0467f5d0c8a3dbf435aa7fe4cd90d125170f9a29eecbd14034"), looks := true }, kinds := [], alts := [], laidByText := true, laidKinds := [.data, .data, .data, .data, .sentinel, .sentinel, .data, .pinned], laidTests := true, laidLooks := .later }
def WeightTextsUptoCardSaid : Prop := Claim7.holds Tryz.pinned (.plain (OpenSpec.upto weightTextsSpec)) weightTextsUptoCard

/-- THE SECOND FORM's CARD OF 'cressetlaw01.WeightFewest'. -/
def weightFewestUptoCard : Claim7 := { stood := { row := weightFewestUptoRow, standIns := [], harness := (true, "ca3c912b95184f0467f5d0c8a3dbf435aa7fe4cd90d125170f9a29eecbd14034"), looks := true }, kinds := [], alts := [], laidByText := true, laidKinds := [.data, .data, .data, .data, .sentinel, .sentinel, .pinned], laidTests := true, laidLooks := .later }
def WeightFewestUptoCardSaid : Prop := Claim7.holds Tryz.pinned (.plain (OpenSpec.upto weightFewestSpec)) weightFewestUptoCard

/-- THE SECOND FORM's CARD OF 'cressetlaw01.WeightBack'. -/
def weightBackUptoCard : Claim7 := { stood := { row := weightBackUptoRow, standIns := [], harness := (true, "ca3c912b95184f0467f5d0c8a3dbf435aa7fe4cd90d125170f9a29eecbd14034"), looks := true }, kinds := [], alts := [], laidByText := true, laidKinds := [.data, .data, .data, .data, .sentinel, .sentinel, .data, .pinned], laidTests := true, laidLooks := .later }
def WeightBackUptoCardSaid : Prop := Claim7.holds Tryz.pinned (.plain (OpenSpec.upto weightBackSpec)) weightBackUptoCard

/-- THE SECOND FORM's CARD OF 'cressetlaw01.WeightNames'. -/
def weightNamesUptoCard : Claim7 := { stood := { row := weightNamesUptoRow, standIns := [], harness := (true, "ca3c912b95184f0467f5d0c8a3dbf435aa7fe4cd90d125170f9a29eecbd14034"), looks := true }, kinds := [], alts := [], laidByText := true, laidKinds := [.data, .data, .data, .data, .sentinel, .sentinel, .data, .pinned], laidTests := true, laidLooks := .later }
def WeightNamesUptoCardSaid : Prop := Claim7.holds Tryz.pinned (.plain (OpenSpec.upto weightNamesSpec)) weightNamesUptoCard
end Rows
end Go.Proofs.YthbpadjhlkdpeaaGreatDoor
