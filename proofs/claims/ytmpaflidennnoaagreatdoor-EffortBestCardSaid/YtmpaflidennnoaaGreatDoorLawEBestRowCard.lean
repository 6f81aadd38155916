/- EffortBest: for every task, uint8 and plan the law returns true and each argument reads behind the call as it read before: the row and its tied card. Conditions: the package-level variables that the row lists start as the text of the program lays them (the tie is given, over the pruned copy); the row is unfollowed and recurses. -/
import Derived.Test.YtmpaflidennnoaaGreatDoorK006
import Derived.Test.YtmpaflidennnoaaGreatDoorCards
import Derived.Test.YtmpaflidennnoaaGreatDoorTie
set_option maxHeartbeats 8000000
set_option linter.unusedVariables false
set_option linter.unusedSimpArgs false
namespace Go.Proofs.YtmpaflidennnoaaGreatDoor
open Go.ChangeShapes Go.WideShapes Go.ChangeAt Go.RowKit
theorem Zkd:joinedFacts Tryz.pinned.checked.prog 12 Tryz.f12 Rows.effortBestSpec Rows.effortBestRow=true:=by
 unfold joinedFacts
 simp only[Bool.and_eq_true]
 repeat' apply And.intro
 all_goals (as_aux_lemma=>kernel_rfl)
theorem ZlC:Rows.EffortBestSaid:=
 OpenClaim.holds_of_wide 12 Tryz.f12 rfl rfl rfl rfl rfl rfl rfl ⟨rfl,rfl,rfl,rfl,rfl⟩ rfl rfl rfl rfl rfl (by as_aux_lemma=>kernel_rfl) Tryz.func12 Zkd
  (of_decide_eq_true (by as_aux_lemma=>kernel_rfl)) (by unfold Func.isWrapper;first | (rw[if_pos (by decide +kernel)];kernel_rfl) | (rw[if_neg (by decide +kernel)];exact⟨rfl,rfl⟩))
  (fun os started H enc _=>Zja os started H enc)
theorem best_card:Rows.EffortBestCardSaid:=
 Claim7.holds_tied_plain_at .later [] [.data,.data,.data,.data,.sentinel,.sentinel,.data,.data,.data,.pinned] true Rows.effortBestCard.stood.harness true ZlC (fun _ h=>by cases h) (by kernel_rfl) (fun _ h=>by cases h) effortBest_row_tie rfl ⟨rfl,rfl⟩ (by kernel_rfl) rfl
  (fun f fn hf hfn=>by
   obtain rfl:f=12:=Option.some.inj ((show Tryz.prog.funcNamed "cresset/cressetlaw07.EffortBest" = some 12 by kernel_rfl).symm.trans hf) |>.symm
   obtain rfl:fn=Tryz.f12:=(Option.some.inj (Tryz.func12.symm.trans hfn)).symm
   exact⟨by kernel_rfl,fun j t ht=>by
    rw[Tryz.params12] at ht
    have hm:t ∈ [26,5,29]:=by simpa using Array.mem_of_getElem? ht
    have hall:([26,5,29].all fun u=>!Tryz.prog.wantsStandIn u)=true:=by kernel_rfl
    exact(show Tryz.prog.wantsStandIn t=false by simpa using List.all_eq_true.1 hall t hm)⟩)
  (by kernel_rfl)
#print axioms best_card
end Go.Proofs.YtmpaflidennnoaaGreatDoor
