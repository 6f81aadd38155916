/- WeightNames: for no argument the law returns true and each argument reads behind the call as it read before: the row and its tied card. Conditions: the package-level variables that the row lists start as the text of the program lays them (the tie is given, over the pruned copy); the row is unfollowed and recurses. -/
import Derived.Test.YthbpadjhlkdpeaaGreatDoorG45
import Derived.Test.YthbpadjhlkdpeaaGreatDoorCards
import Derived.Test.YthbpadjhlkdpeaaGreatDoorTie
namespace Go.Proofs.YthbpadjhlkdpeaaGreatDoor
open Go.ChangeShapes Go.WideShapes Go.ChangeAt Go.RowKit

set_option maxHeartbeats 8000000 in
theorem names_facts : joinedFacts Tryz.pinned.checked.prog 15 Tryz.f15 Rows.weightNamesSpec Rows.weightNamesRow = true := by
  unfold joinedFacts
  simp only [Bool.and_eq_true]
  repeat' apply And.intro
  all_goals (as_aux_lemma => kernel_rfl)

set_option maxHeartbeats 8000000 in
theorem names_row : Rows.WeightNamesSaid :=
  OpenClaim.holds_of_wide 15 Tryz.f15 rfl rfl rfl rfl rfl rfl rfl ⟨rfl, rfl, rfl, rfl, rfl⟩ rfl rfl rfl rfl rfl (by as_aux_lemma => kernel_rfl) Tryz.func15 names_facts
    (of_decide_eq_true (by as_aux_lemma => kernel_rfl)) (by unfold Func.isWrapper; first | (rw [if_pos (by decide +kernel)]; kernel_rfl) | (rw [if_neg (by decide +kernel)]; exact ⟨rfl, rfl⟩))
    (fun os started H enc _ => names_lifted os started H enc)

theorem names_card : Rows.WeightNamesCardSaid :=
  Claim7.holds_tied_plain_at .later [] [.data, .data, .data, .data, .sentinel, .sentinel, .data, .pinned] true Rows.weightNamesCard.stood.harness true names_row (fun _ h => by cases h) (by kernel_rfl) (fun _ h => by cases h) weightNames_row_tie rfl ⟨rfl, rfl⟩ (by kernel_rfl) rfl
    (fun f fn hf hfn => by
      obtain rfl : f = 15 := Option.some.inj ((show Tryz.prog.funcNamed "cresset/cressetlaw01.WeightNames" = some 15 by kernel_rfl).symm.trans hf) |>.symm
      obtain rfl : fn = Tryz.f15 := (Option.some.inj (Tryz.func15.symm.trans hfn)).symm
      exact ⟨by kernel_rfl, fun j t ht => by
        rw [Tryz.params15] at ht
        simp at ht⟩)
    (by kernel_rfl)
#print axioms names_card
end Go.Proofs.YthbpadjhlkdpeaaGreatDoor
