/- EffortValues: for every task, plan and all pairs of integers the law returns true and each argument reads behind the call as it read before: the row and its tied card. Conditions: the package-level variables that the row lists start as the text of the program lays them (the tie is given, over the pruned copy); the row is unfollowed and recurses. -/
import Derived.Test.YtmpaflidennnoaaGreatDoorK011
import Derived.Test.YtmpaflidennnoaaGreatDoorCards
import Derived.Test.YtmpaflidennnoaaGreatDoorTie
set_option maxHeartbeats 8000000
set_option linter.unusedVariables false
set_option linter.unusedSimpArgs false
namespace Go.Proofs.YtmpaflidennnoaaGreatDoor
open Go.ChangeShapes Go.WideShapes Go.ChangeAt Go.RowKit
theorem ZiS:joinedFacts Tryz.pinned.checked.prog 6 Tryz.f6 Rows.effortValuesSpec Rows.effortValuesRow=true:=by
 unfold joinedFacts
 simp only[ZoY]
 repeat' apply Zo5
 all_goals (as_aux_lemma=>kernel_rfl)
theorem Zko:Rows.EffortValuesSaid:=
 OpenClaim.holds_of_wide 6 Tryz.f6 rfl rfl rfl rfl rfl rfl rfl ⟨rfl,rfl,rfl,rfl,rfl⟩ rfl rfl rfl rfl rfl (by as_aux_lemma=>kernel_rfl) Tryz.func6 ZiS
  (of_decide_eq_true (by as_aux_lemma=>kernel_rfl)) (by unfold Func.isWrapper;first | (rw[if_pos (by decide +kernel)];kernel_rfl) | (rw[if_neg (by decide +kernel)];exact⟨rfl,rfl⟩))
  (fun os started H enc _=>Zh1 os started H enc)
theorem values_card:Rows.EffortValuesCardSaid:=
 Claim7.holds_tied_plain_at .later [] [.data,.data,.data,.data,.sentinel,.sentinel,.data,.data,.data,.pinned] true Rows.effortValuesCard.stood.harness true Zko (fun _ h=>by cases h) Zb (fun _ h=>by cases h) effortValues_row_tie rfl ⟨rfl,rfl⟩ Zb rfl
  (fun f fn hf hfn=>by
   obtain rfl:f=6:=Zou ((show Tryz.prog.funcNamed "cresset/cressetlaw07.EffortValues" = some 6 by kernel_rfl).symm.trans hf) |>.symm
   obtain rfl:fn=Tryz.f6:=(Zou (Tryz.func6.symm.trans hfn)).symm
   exact⟨Zb,fun j t ht=>by
    rw[Tryz.params6] at ht
    have hm:t ∈ [26,29,3,3]:=by simpa using Array.mem_of_getElem? ht
    have hall:([26,29,3,3].all fun u=>!Tryz.prog.wantsStandIn u)=true:=Zb
    exact(show Tryz.prog.wantsStandIn t=false by simpa using Zo3.1 hall t hm)⟩)
  Zb
#print axioms values_card
end Go.Proofs.YtmpaflidennnoaaGreatDoor
