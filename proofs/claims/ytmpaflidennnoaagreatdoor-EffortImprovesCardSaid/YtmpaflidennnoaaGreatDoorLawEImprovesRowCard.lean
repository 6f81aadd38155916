/- EffortImproves: for every task, plan and integer the law returns true and each argument reads behind the call as it read before: the row and its tied card. Conditions: the package-level variables that the row lists start as the text of the program lays them (the tie is given, over the pruned copy); the row is unfollowed and recurses. -/
import Derived.Test.YtmpaflidennnoaaGreatDoorK006
import Derived.Test.YtmpaflidennnoaaGreatDoorCards
import Derived.Test.YtmpaflidennnoaaGreatDoorTie
set_option maxHeartbeats 8000000
set_option linter.unusedVariables false
set_option linter.unusedSimpArgs false
namespace Go.Proofs.YtmpaflidennnoaaGreatDoor
open Go.ChangeShapes Go.WideShapes Go.ChangeAt Go.RowKit
theorem Zhc:joinedFacts Tryz.pinned.checked.prog 8 Tryz.f8 Rows.effortImprovesSpec Rows.effortImprovesRow=true:=by
 unfold joinedFacts
 simp only[Zpj]
 repeat' apply Zpq
 all_goals (as_aux_lemma=>kernel_rfl)
theorem Zi4:Rows.EffortImprovesSaid:=
 OpenClaim.holds_of_wide 8 Tryz.f8 rfl rfl rfl rfl rfl rfl rfl ⟨rfl,rfl,rfl,rfl,rfl⟩ rfl rfl rfl rfl rfl (by as_aux_lemma=>kernel_rfl) Tryz.func8 Zhc
  (of_decide_eq_true (by as_aux_lemma=>kernel_rfl)) (by unfold Func.isWrapper;first | (rw[if_pos (by decide +kernel)];kernel_rfl) | (rw[if_neg (by decide +kernel)];exact⟨rfl,rfl⟩))
  (fun os started H enc _=>ZgC os started H enc)
theorem improves_card:Rows.EffortImprovesCardSaid:=
 Claim7.holds_tied_plain_at .later [] [.data,.data,.data,.data,.sentinel,.sentinel,.data,.data,.data,.pinned] true Rows.effortImprovesCard.stood.harness true Zi4 (fun _ h=>by cases h) Zb (fun _ h=>by cases h) effortImproves_row_tie rfl ⟨rfl,rfl⟩ Zb rfl
  (fun f fn hf hfn=>by
   obtain rfl:f=8:=ZoP ((show Tryz.prog.funcNamed "cresset/cressetlaw07.EffortImproves" = some 8 by kernel_rfl).symm.trans hf) |>.symm
   obtain rfl:fn=Tryz.f8:=(ZoP (Tryz.func8.symm.trans hfn)).symm
   exact⟨Zb,fun j t ht=>by
    rw[Tryz.params8] at ht
    have hm:t ∈ [26,29,3]:=by simpa using Array.mem_of_getElem? ht
    have hall:([26,29,3].all fun u=>!Tryz.prog.wantsStandIn u)=true:=Zb
    exact(show Tryz.prog.wantsStandIn t=false by simpa using Zpo.1 hall t hm)⟩)
  Zb
#print axioms improves_card
end Go.Proofs.YtmpaflidennnoaaGreatDoor
