/- WeightTexts: for every fraction of two strings, every string and every integer the law returns true and each argument reads behind the call as it read before: the row and its tied card. Conditions: the package-level variables that the row lists start as the text of the program lays them (the tie is given, over the pruned copy); the row is unfollowed and recurses. -/
import Derived.Test.YthbpadjhlkdpeaaGreatDoorG39
import Derived.Test.YthbpadjhlkdpeaaGreatDoorCards
import Derived.Test.YthbpadjhlkdpeaaGreatDoorTie
namespace Go.Proofs.YthbpadjhlkdpeaaGreatDoor
open Go.ChangeShapes Go.WideShapes Go.ChangeAt Go.RowKit

set_option maxHeartbeats 8000000 in
theorem texts_facts : joinedFacts Tryz.pinned.checked.prog 12 Tryz.f12 Rows.weightTextsSpec Rows.weightTextsRow = true := by
  unfold joinedFacts
  simp only [Bool.and_eq_true]
  repeat' apply And.intro
  all_goals (as_aux_lemma => kernel_rfl)

set_option maxHeartbeats 8000000 in
theorem texts_row : Rows.WeightTextsSaid :=
  OpenClaim.holds_of_wide 12 Tryz.f12 rfl rfl rfl rfl rfl rfl rfl ⟨rfl, rfl, rfl, rfl, rfl⟩ rfl rfl rfl rfl rfl (by as_aux_lemma => kernel_rfl) Tryz.func12 texts_facts
    (of_decide_eq_true (by as_aux_lemma => kernel_rfl)) (by unfold Func.isWrapper; first | (rw [if_pos (by decide +kernel)]; kernel_rfl) | (rw [if_neg (by decide +kernel)]; exact ⟨rfl, rfl⟩))
    (fun os started H enc _ => texts_lifted os started H enc)

theorem texts_card : Rows.WeightTextsCardSaid :=
  Claim7.holds_tied_plain_at .later [] [.data, .data, .data, .data, .sentinel, .sentinel, .data, .pinned] true Rows.weightTextsCard.stood.harness true texts_row (fun _ h => by cases h) (by kernel_rfl) (fun _ h => by cases h) weightTexts_row_tie rfl ⟨rfl, rfl⟩ (by kernel_rfl) rfl
    (fun f fn hf hfn => by
      obtain rfl : f = 12 := Option.some.inj ((show Tryz.prog.funcNamed "cresset/cressetlaw01.WeightTexts" = some 12 by kernel_rfl).symm.trans hf) |>.symm
      obtain rfl : fn = Tryz.f12 := (Option.some.inj (Tryz.func12.symm.trans hfn)).symm
      exact ⟨by kernel_rfl, fun j t ht => by
        rw [Tryz.params12] at ht
        have hm : t ∈ [24, 9, 3] := by simpa using Array.mem_of_getElem? ht
        have hall : ([24, 9, 3].all fun u => !Tryz.prog.wantsStandIn u) = true := by kernel_rfl
        exact (show Tryz.prog.wantsStandIn t = false by simpa using List.all_eq_true.1 hall t hm)⟩)
    (by kernel_rfl)
#print axioms texts_card
end Go.Proofs.YthbpadjhlkdpeaaGreatDoor
