/- BeliefVain: for every belief, all runs and every two strings of a fraction the law returns true and each argument reads behind the call as it read before: the row and its tied card. Conditions: the package-level variables that the row lists start as the text of the program lays them (the tie is given, over the pruned copy); the row is unfollowed and recurses. -/
import Derived.Test.YtjmckebecpjjfaaGreatDoorK002
import Derived.Test.YtjmckebecpjjfaaGreatDoorCards
import Derived.Test.YtjmckebecpjjfaaGreatDoorTie
set_option maxHeartbeats 8000000
set_option linter.unusedVariables false
set_option linter.unusedSimpArgs false
namespace Go.Proofs.YtjmckebecpjjfaaGreatDoor
open Go.ChangeShapes Go.WideShapes Go.ChangeAt Go.RowKit
theorem ZeYr:joinedFacts Tryz.pinned.checked.prog 4 Tryz.f4 Rows.beliefVainSpec Rows.beliefVainRow=true:=by
 unfold joinedFacts
 simp only[Zqt]
 repeat' apply Zqy
 all_goals (as_aux_lemma=>kernel_rfl)
theorem Zob:Rows.BeliefVainSaid:=
 OpenClaim.holds_of_wide 4 Tryz.f4 rfl rfl rfl rfl rfl rfl rfl ⟨rfl,rfl,rfl,rfl,rfl⟩ rfl rfl rfl rfl rfl (by as_aux_lemma=>kernel_rfl) Tryz.func4 ZeYr
  (of_decide_eq_true (by as_aux_lemma=>kernel_rfl)) (by unfold Func.isWrapper;first | (rw[if_pos (by decide +kernel)];kernel_rfl) | (rw[if_neg (by decide +kernel)];exact⟨rfl,rfl⟩))
  (fun os started H enc _=>ZkN os started H enc)
theorem vain_card:Rows.BeliefVainCardSaid:=
 Claim7.holds_tied_plain_at .later [] [.data,.data,.data,.data,.sentinel,.sentinel,.data,.data,.data,.pinned] true Rows.beliefVainCard.stood.harness true Zob (fun _ h=>by cases h) Zb (fun _ h=>by cases h) beliefVain_row_tie rfl ⟨rfl,rfl⟩ Zb rfl
  (fun f fn hf hfn=>by
   obtain rfl:f=4:=ZpZ ((show Tryz.prog.funcNamed "cresset/cressetlaw12.BeliefVain" = some 4 by kernel_rfl).symm.trans hf) |>.symm
   obtain rfl:fn=Tryz.f4:=(ZpZ (Tryz.func4.symm.trans hfn)).symm
   exact⟨Zb,fun j t ht=>by
    rw[Tryz.params4] at ht
    have hm:t ∈ [27,22,39]:=by simpa using Array.mem_of_getElem? ht
    have hall:([27,22,39].all fun u=>!Tryz.prog.wantsStandIn u)=true:=Zb
    exact(show Tryz.prog.wantsStandIn t=false by simpa using Zqw.1 hall t hm)⟩)
  Zb
#print axioms vain_card
end Go.Proofs.YtjmckebecpjjfaaGreatDoor
