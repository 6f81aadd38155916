/-
  DERIVED. GIVEN WITH THE SEED: THE CARDS: each row of YtjmckebecpjjfaaGreatDoorRows.lean that lists a variable, with what it lists TIED to the program's text (the seventh form; the later family's looks); each row that meets fmt, with fmt's text TOLD by the authors' own Lean function (tested against real Go, not proved from fmt's source: count such statements apart). THE CARD IS WHAT COUNTS. Prove the row's statement (the work); the ties are given (YtjmckebecpjjfaaGreatDoorTie.lean); close each card by the builder's one call (the guide's Derived/Test/ToyasCard.lean, 'card_holds'). Laid BY PROGRAM, IN A SANDBOX (cutbox-door.mjs). By AI agents, Wed Nov 11 2026. No macro, syntax, notation, axiom, sorry.
-/
import Derived.Test.YtjmckebecpjjfaaGreatDoorRows
import GoSem.ClaimSeven
namespace Go.Proofs.YtjmckebecpjjfaaGreatDoor
namespace Rows

/-- THE TIED CARD OF 'cressetlaw12.BeliefWhole'. -/
def beliefWholeCard : Claim7 := { stood := { row := beliefWholeRow, standIns := [], harness := (true, "85c4f7ee5c45fb09d6cb43b5a8d998663f2f7b0de62cf785bb80fdd4cbde7d77"), looks := true }, kinds := [], alts := [], laidByText := true, laidKinds := [.data, .data, .data, .data, .sentinel, .sentinel, .data, .data, .data, .pinned], laidTests := true, laidLooks := .later }
def BeliefWholeCardSaid : Prop := Claim7.holds Tryz.pinned (.plain (OpenSpec.ofChange beliefWholeSpec)) beliefWholeCard

/-- THE TIED CARD OF 'cressetlaw12.BeliefVain'. -/
def beliefVainCard : Claim7 := { stood := { row := beliefVainRow, standIns := [], harness := (true, "85c4f7ee5c45fb09d6cb43b5a8d998663f2f7b0de62cf785bb80fdd4cbde7d77"), looks := true }, kinds := [], alts := [], laidByText := true, laidKinds := [.data, .data, .data, .data, .sentinel, .sentinel, .data, .data, .data, .pinned], laidTests := true, laidLooks := .later }
def BeliefVainCardSaid : Prop := Claim7.holds Tryz.pinned (.plain (OpenSpec.ofChange beliefVainSpec)) beliefVainCard

/-- THE TIED CARD OF 'cressetlaw12.BeliefWays'. -/
def beliefWaysCard : Claim7 := { stood := { row := beliefWaysRow, standIns := [], harness := (true, "85c4f7ee5c45fb09d6cb43b5a8d998663f2f7b0de62cf785bb80fdd4cbde7d77"), looks := true }, kinds := [], alts := [], laidByText := true, laidKinds := [.data, .data, .data, .data, .sentinel, .sentinel, .data, .data, .data, .pinned], laidTests := true, laidLooks := .later }
def BeliefWaysCardSaid : Prop := Claim7.holds Tryz.pinned (.plain (OpenSpec.ofChange beliefWaysSpec)) beliefWaysCard

/-- THE TIED CARD OF 'cressetlaw12.BeliefOrder'. -/
def beliefOrderCard : Claim7 := { stood := { row := beliefOrderRow, standIns := [], harness := (true, "85c4f7ee5c45fb09d6cb43b5a8d998663f2f7b0de62cf785bb80fdd4cbde7d77"), looks := true }, kinds := [], alts := [], laidByText := true, laidKinds := [.data, .data, .data, .data, .sentinel, .sentinel, .data, .data, .data, .pinned], laidTests := true, laidLooks := .later }
def BeliefOrderCardSaid : Prop := Claim7.holds Tryz.pinned (.plain (OpenSpec.ofChange beliefOrderSpec)) beliefOrderCard

/-- THE TIED CARD OF 'cressetlaw12.BeliefFewest'. -/
def beliefFewestCard : Claim7 := { stood := { row := beliefFewestRow, standIns := [], harness := (true, "85c4f7ee5c45fb09d6cb43b5a8d998663f2f7b0de62cf785bb80fdd4cbde7d77"), looks := true }, kinds := [], alts := [], laidByText := true, laidKinds := [.data, .data, .data, .data, .sentinel, .sentinel, .data, .data, .data, .pinned], laidTests := true, laidLooks := .later }
def BeliefFewestCardSaid : Prop := Claim7.holds Tryz.pinned (.plain (OpenSpec.ofChange beliefFewestSpec)) beliefFewestCard

/-- THE TIED CARD OF 'cressetlaw12.BeliefNames'. -/
def beliefNamesCard : Claim7 := { stood := { row := beliefNamesRow, standIns := [], harness := (true, "85c4f7ee5c45fb09d6cb43b5a8d998663f2f7b0de62cf785bb80fdd4cbde7d77"), looks := true }, kinds := [], alts := [], laidByText := true, laidKinds := [.data, .data, .data, .data, .sentinel, .sentinel, .data, .data, .data, .pinned], laidTests := true, laidLooks := .later }
def BeliefNamesCardSaid : Prop := Claim7.holds Tryz.pinned (.plain (OpenSpec.ofChange beliefNamesSpec)) beliefNamesCard

/-- THE SECOND FORM's CARD OF 'cressetlaw12.BeliefWhole'. -/
def beliefWholeUptoCard : Claim7 := { stood := { row := beliefWholeUptoRow, standIns := [], harness := (true, "85c4f7ee5c45fb09d6cb43b5a8d998663f2f7b0de62cf785bb80fdd4cbde7d77"), looks := true }, kinds := [], alts := [], laidByText := true, laidKinds := [.data, .data, .data, .data, .sentinel, .sentinel, .data, .data, .data, .pinned], laidTests := true, laidLooks := .later }
def BeliefWholeUptoCardSaid : Prop := Claim7.holds Tryz.pinned (.plain (OpenSpec.upto beliefWholeSpec)) beliefWholeUptoCard

/-- THE SECOND FORM's CARD OF 'cressetlaw12.BeliefVain'. -/
def beliefVainUptoCard : Claim7 := { stood := { row := beliefVainUptoRow, standIns := [], harness := (true, "85c4f7ee5c45fb09d6cb43b5a8d998663f2f7b0de62cf785bb80fdd4cbde7d77"), looks := true }, kinds := [], alts := [], laidByText := true, laidKinds := [.data, .data, .data, .data, .sentinel, .sentinel, .data, .data, .data, .pinned], laidTests := true, laidLooks := .later }
def BeliefVainUptoCardSaid : Prop := Claim7.holds Tryz.pinned (.plain (OpenSpec.upto beliefVainSpec)) beliefVainUptoCard

/-- THE SECOND FORM's CARD OF 'cressetlaw12.BeliefWays'. -/
def beliefWaysUptoCard : Claim7 := { stood := { row := beliefWaysUptoRow, standIns := [], harness := (true, "85c4f7ee5c45fb09d6cb43b5a8d998663f2f7b0de62cf785bb80fdd4cbde7d77"), looks := true }, kinds := [], alts := [], laidByText := true, laidKinds := [.data, .data, .data, .data, .sentinel, .sentinel, .data, .data, .data, .pinned], laidTests := true, laidLooks := .later }
def BeliefWaysUptoCardSaid : Prop := Claim7.holds Tryz.pinned (.plain (OpenSpec.upto beliefWaysSpec)) beliefWaysUptoCard

/-- THE SECOND FORM's CARD OF 'cressetlaw12.BeliefOrder'. -/
def beliefOrderUptoCard : Claim7 := { stood := { row := beliefOrderUptoRow, standIns := [], harness := (true, "85c4f7ee5c45fb09d6cb43b5a8d998663f2f7b0de62cf785bb80fdd4cbde7d77"), looks := true }, kinds := [], alts := [], laidByText := true, laidKinds := [.data, .data, .data, .data, .sentinel, .sentinel, .data, .data, .data, .pinned], laidTests := true, laidLooks := .later }
def BeliefOrderUptoCardSaid : Prop := Claim7.holds Tryz.pinned (.plain (OpenSpec.upto beliefOrderSpec)) beliefOrderUptoCard

/-- THE SECOND FORM's CARD OF 'cressetlaw12.BeliefFewest'. -/
def beliefFewestUptoCard : Claim7 := { stood := { row := beliefFewestUptoRow, standIns := [], harness := (true, "85c4f7ee5c45fb09d6cb43b5a8d998663f2f7b0de62cf785bb80fdd4cbde7d77"), looks := true }, kinds := [], alts := [], laidByText := true, laidKinds := [.data, .data, .data, .data, .sentinel, .sentinel, .data, .data, .data, .pinned], laidTests := true, laidLooks := .later }
def BeliefFewestUptoCardSaid : Prop := Claim7.holds Tryz.pinned (.plain (OpenSpec.upto beliefFewestSpec)) beliefFewestUptoCard

/-- THE SECOND FORM's CARD OF 'cressetlaw12.BeliefNames'. -/
def beliefNamesUptoCard : Claim7 := { stood := { row := beliefNamesUptoRow, standIns := [], harness := (true, "85c4f7ee5c45fb09d6cb43b5a8d998663f2f7b0de62cf785bb80fdd4cbde7d77"), looks := true }, kinds := [], alts := [], laidByText := true, laidKinds := [.data, .data, .data, .data, .sentinel, .sentinel, .data, .data, .data, .pinned], laidTests := true, laidLooks := .later }
def BeliefNamesUptoCardSaid : Prop := Claim7.holds Tryz.pinned (.plain (OpenSpec.upto beliefNamesSpec)) beliefNamesUptoCard
end Rows
end Go.Proofs.YtjmckebecpjjfaaGreatDoor
