/- BeliefWhole: for every belief, all notices and every uint8 the law returns true and each argument reads behind the call as it read before: the row and its tied card. Conditions: the package-level variables that the row lists start as the text of the program lays them (the tie is given, over the pruned copy); the row is unfollowed and recurses. -/
import Derived.Test.YtjmckebecpjjfaaGreatDoorK001
import Derived.Test.YtjmckebecpjjfaaGreatDoorCards
import Derived.Test.YtjmckebecpjjfaaGreatDoorTie
set_option maxHeartbeats 8000000
set_option linter.unusedVariables false
set_option linter.unusedSimpArgs false
namespace Go.Proofs.YtjmckebecpjjfaaGreatDoor
open Go.ChangeShapes Go.WideShapes Go.ChangeAt Go.RowKit
theorem Zh2:joinedFacts Tryz.pinned.checked.prog 3 Tryz.f3 Rows.beliefWholeSpec Rows.beliefWholeRow=true:=by
 unfold joinedFacts
 simp only[Znw]
 repeat' apply ZnB
 all_goals (as_aux_lemma=>kernel_rfl)
theorem Zkj:Rows.BeliefWholeSaid:=
 OpenClaim.holds_of_wide 3 Tryz.f3 rfl rfl rfl rfl rfl rfl rfl ⟨rfl,rfl,rfl,rfl,rfl⟩ rfl rfl rfl rfl rfl (by as_aux_lemma=>kernel_rfl) Tryz.func3 Zh2
  (of_decide_eq_true (by as_aux_lemma=>kernel_rfl)) (by unfold Func.isWrapper;first | (rw[if_pos (by decide +kernel)];kernel_rfl) | (rw[if_neg (by decide +kernel)];exact⟨rfl,rfl⟩))
  (fun os started H enc _=>Zhd os started H enc)
theorem whole_card:Rows.BeliefWholeCardSaid:=
 Claim7.holds_tied_plain_at .later [] [.data,.data,.data,.data,.sentinel,.sentinel,.data,.data,.data,.pinned] true Rows.beliefWholeCard.stood.harness true Zkj (fun _ h=>by cases h) Zb (fun _ h=>by cases h) beliefWhole_row_tie rfl ⟨rfl,rfl⟩ Zb rfl
  (fun f fn hf hfn=>by
   obtain rfl:f=3:=Zm2 ((show Tryz.prog.funcNamed "cresset/cressetlaw12.BeliefWhole" = some 3 by kernel_rfl).symm.trans hf) |>.symm
   obtain rfl:fn=Tryz.f3:=(Zm2 (Tryz.func3.symm.trans hfn)).symm
   exact⟨Zb,fun j t ht=>by
    rw[Tryz.params3] at ht
    have hm:t ∈ [27,28,5]:=by simpa using Array.mem_of_getElem? ht
    have hall:([27,28,5].all fun u=>!Tryz.prog.wantsStandIn u)=true:=Zb
    exact(show Tryz.prog.wantsStandIn t=false by simpa using Znz.1 hall t hm)⟩)
  Zb
#print axioms whole_card
end Go.Proofs.YtjmckebecpjjfaaGreatDoor
