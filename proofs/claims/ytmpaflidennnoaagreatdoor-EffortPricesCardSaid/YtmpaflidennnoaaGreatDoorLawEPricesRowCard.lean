/- EffortPrices: for every task, plan and list of fractions the law returns true and each argument reads behind the call as it read before: the row and its tied card. Conditions: the package-level variables that the row lists start as the text of the program lays them (the tie is given, over the pruned copy); the row is unfollowed and recurses. -/
import Derived.Test.YtmpaflidennnoaaGreatDoorK006
import Derived.Test.YtmpaflidennnoaaGreatDoorCards
import Derived.Test.YtmpaflidennnoaaGreatDoorTie
set_option maxHeartbeats 8000000
set_option linter.unusedVariables false
set_option linter.unusedSimpArgs false
namespace Go.Proofs.YtmpaflidennnoaaGreatDoor
open Go.ChangeShapes Go.WideShapes Go.ChangeAt Go.RowKit
theorem ZiS:joinedFacts Tryz.pinned.checked.prog 7 Tryz.f7 Rows.effortPricesSpec Rows.effortPricesRow=true:=by
 unfold joinedFacts
 simp only[Bool.and_eq_true]
 repeat' apply And.intro
 all_goals (as_aux_lemma=>kernel_rfl)
theorem Zlj:Rows.EffortPricesSaid:=
 OpenClaim.holds_of_wide 7 Tryz.f7 rfl rfl rfl rfl rfl rfl rfl ⟨rfl,rfl,rfl,rfl,rfl⟩ rfl rfl rfl rfl rfl (by as_aux_lemma=>kernel_rfl) Tryz.func7 ZiS
  (of_decide_eq_true (by as_aux_lemma=>kernel_rfl)) (by unfold Func.isWrapper;first | (rw[if_pos (by decide +kernel)];kernel_rfl) | (rw[if_neg (by decide +kernel)];exact⟨rfl,rfl⟩))
  (fun os started H enc _=>Zh7 os started H enc)
theorem prices_card:Rows.EffortPricesCardSaid:=
 Claim7.holds_tied_plain_at .later [] [.data,.data,.data,.data,.sentinel,.sentinel,.data,.data,.data,.pinned] true Rows.effortPricesCard.stood.harness true Zlj (fun _ h=>by cases h) Zb (fun _ h=>by cases h) effortPrices_row_tie rfl ⟨rfl,rfl⟩ Zb rfl
  (fun f fn hf hfn=>by
   obtain rfl:f=7:=ZoQ ((show Tryz.prog.funcNamed "cresset/cressetlaw07.EffortPrices" = some 7 by kernel_rfl).symm.trans hf) |>.symm
   obtain rfl:fn=Tryz.f7:=(ZoQ (Tryz.func7.symm.trans hfn)).symm
   exact⟨Zb,fun j t ht=>by
    rw[Tryz.params7] at ht
    have hm:t ∈ [26,29,37]:=by simpa using Array.mem_of_getElem? ht
    have hall:([26,29,37].all fun u=>!Tryz.prog.wantsStandIn u)=true:=Zb
    exact(show Tryz.prog.wantsStandIn t=false by simpa using List.all_eq_true.1 hall t hm)⟩)
  Zb
#print axioms prices_card
end Go.Proofs.YtmpaflidennnoaaGreatDoor
