/- WeightField: for every three fractions of strings the law returns true and each argument reads behind the call as it read before: the row and its tied card. Conditions: the package-level variables that the row lists start as the text of the program lays them (the tie is given, over the pruned copy); the row is unfollowed and recurses. -/
import Derived.Test.YthbpadjhlkdpeaaGreatDoorG19
import Derived.Test.YthbpadjhlkdpeaaGreatDoorG18
import Derived.Test.YthbpadjhlkdpeaaGreatDoorCards
import Derived.Test.YthbpadjhlkdpeaaGreatDoorTie
namespace Go.Proofs.YthbpadjhlkdpeaaGreatDoor
open Go.ChangeShapes Go.WideShapes Go.ChangeAt Go.RowKit

theorem okE_cases (s t : ByteArray) : (okE s t = 2) ∨ (okE s t = 0 ∧ okP s t = true) := by
  cases h : okP s t
  · exact .inl (okE_no h)
  · exact .inr ⟨okE_yes h, rfl⟩

theorem field_any (a1 a2 b1 b2 c1 c2 : ByteArray) (w : World) (hT : Tabs w) :
    Calls Tryz.prog 8 #[pV a1 a2, pV b1 b2, pV c1 c2] w (BoolPost w true) := by
  cases h0 : shortB 60 [(a1, a2), (b1, b2), (c1, c2)]
  · exact field_early0 a1 a2 b1 b2 c1 c2 w hT h0
  have hs := shortB_iff.1 h0
  obtain ⟨sa1, sa2⟩ := hs (a1, a2) (by simp)
  obtain ⟨sb1, sb2⟩ := hs (b1, b2) (by simp)
  obtain ⟨sc1, sc2⟩ := hs (c1, c2) (by simp)
  dsimp only at sa1 sa2 sb1 sb2 sc1 sc2
  have hz : a1.size ≤ 1000000 ∧ a2.size ≤ 1000000 ∧ b1.size ≤ 1000000 ∧ b2.size ≤ 1000000 ∧ c1.size ≤ 1000000 ∧ c2.size ≤ 1000000 := by omega
  rcases okE_cases a1 a2 with h1 | ⟨h1, ka⟩
  · exact field_early1 a1 a2 b1 b2 c1 c2 w hT h0 hz h1
  rcases okE_cases b1 b2 with h2 | ⟨h2, kb⟩
  · exact field_early2 a1 a2 b1 b2 c1 c2 w hT h0 hz h1 h2
  rcases okE_cases c1 c2 with h3 | ⟨h3, kc⟩
  · exact field_early3 a1 a2 b1 b2 c1 c2 w hT h0 hz h1 h2 h3
  have ia := isP_of_ok ka
  have ib := isP_of_ok kb
  have ic := isP_of_ok kc
  have za : Sz 60 (ratP a1 a2) := ia.sz sa1 sa2
  have zb : Sz 60 (ratP b1 b2) := ib.sz sb1 sb2
  have zc : Sz 60 (ratP c1 c2) := ic.sz sc1 sc2
  generalize ratP a1 a2 = qa at ia za
  generalize ratP b1 b2 = qb at ib zb
  generalize ratP c1 c2 = qc at ic zc
  have na := ia.nn
  have nb := ib.nn
  have nc := ic.nn
  have nab : 0 ≤ qa + qb := by grind
  have nbc : 0 ≤ qb + qc := by grind
  have nx : 0 ≤ qa * qb := Rat.mul_nonneg na nb
  have nac : 0 ≤ qa * qc := Rat.mul_nonneg na nc
  have nabc : 0 ≤ qa + qb + qc := by grind
  have nl : 0 ≤ qa * (qb + qc) := Rat.mul_nonneg na nbc
  have zab := Sz.add na nb za zb
  have zbc := Sz.add nb nc zb zc
  have zx := Sz.mul na nb za zb
  have zac := Sz.mul na nc za zc
  have zabc := Sz.add nab nc zab zc
  have zl := Sz.mul na nbc za zbc
  obtain ⟨ab1, ab2, iab⟩ := sz_isP nab zab (by decide) (by decide)
  obtain ⟨bc1, bc2, ibc⟩ := sz_isP nbc zbc (by decide) (by decide)
  obtain ⟨x1, x2, ix⟩ := sz_isP nx zx (by decide) (by decide)
  obtain ⟨ac1, ac2, iac⟩ := sz_isP nac zac (by decide) (by decide)
  obtain ⟨abc1, abc2, iabc⟩ := sz_isP nabc zabc (by decide) (by decide)
  obtain ⟨left1, left2, il⟩ := sz_isP nl zl (by decide) (by decide)
  have e2 : qb + qa = qa + qb := Rat.add_comm _ _
  have e4 : qb * qa = qa * qb := Rat.mul_comm _ _
  have e7 : qa + (qb + qc) = qa + qb + qc := (Rat.add_assoc _ _ _).symm
  have e8 : qa + qb - qb = qa := by grind
  have e11 : qa * qb + qa * qc = qa * (qb + qc) := (Rat.mul_add _ _ _).symm
  by_cases hr : qb = 0
  · exact field_main0 a1 a2 b1 b2 c1 c2 w hT h0 hz h1 h2 h3 ia ib ic iab ix iabc ibc il iac rfl e2 rfl e4 rfl rfl e7 e8 rfl rfl e11 hr (zero_num ib hr)
  · have hp : 0 < qb := Rat.lt_of_le_of_ne nb (Ne.symm hr)
    have e12 : qa * qb / qb = qa := by grind
    exact field_main1 a1 a2 b1 b2 c1 c2 w hT h0 hz h1 h2 h3 ia ib ic iab ix iabc ibc il iac rfl e2 rfl e4 rfl rfl e7 e8 rfl rfl e11 hp e12

set_option maxRecDepth 100000 in
theorem field_lifted (os : Os) (started : os.Started) (H : Type) (enc : TypeId × Value → H) :
    ReturnsInHanded {} Tryz.checked os 8 .any (fun w args => (Rows.weightFieldSpec.pre enc Tryz.prog Tryz.f8 Rows.weightFieldRow.domain false w args ∧ laidMetH Tryz.prog laid7 w) ∧ sizedMet enc Tryz.prog Tryz.f8 (OpenSpec.ofChange Rows.weightFieldSpec) false w args)
      (Rows.weightFieldSpec.post enc Tryz.prog Tryz.f8 false true false false) := by
  refine returnsInHanded_of_change_and (C := Tryz.checked) (X := fun w _ => laidMetH Tryz.prog laid7 w) (fun _ _ _ hh h => h.of_heap hh) own_seat started (by kernel_rfl) Tryz.func8
    (ChangeSpec.witness_shaped (enc := enc) (C := Tryz.checked) (os := os) (X := fun w _ => laidMetH Tryz.prog laid7 w) false (World.laidAll Tryz.prog os laid7) #[pV ⟨#[]⟩ ⟨#[]⟩, pV ⟨#[]⟩ ⟨#[]⟩, pV ⟨#[]⟩ ⟨#[]⟩] 8 (World.laidAll_os _ _ _)
      (World.shaped_of_ZipB (by kernel_rfl) (by kernel_rfl)) (by kernel_rfl) (by kernel_rfl) (by kernel_rfl) (met7 os _)) ?_
  intro W base args ds gs before hval0 hW hc _ hL _
  have hval : ∀ (j : Nat) t v, Tryz.f8.params[j]? = some t → args[j]? = some v → Value.okWide Tryz.prog W .any base t v := hval0
  have hW' := hW
  obtain ⟨p, q, hA0, hV, rfl, _, _⟩ := hW
  have hA : DataW.TrodAll enc Tryz.prog W 0 (fun _ => true) true Tryz.f8.params.toList args.toList ds p := hA0
  rw [Tryz.params8] at hA hval
  obtain ⟨v0, v1, v2, d0, d1, d2, p0, p1, p2, rfl, rfl, rfl, h0, h1, h2⟩ := trodAll_three hA
  obtain ⟨rfl, rfl⟩ := trodVars_none hV
  obtain ⟨a1, a2, rfl, rfl⟩ := open_part (hval 0 _ v0 rfl rfl) h0
  obtain ⟨b1, b2, rfl, rfl⟩ := open_part (hval 1 _ v1 rfl rfl) h1
  obtain ⟨c1, c2, rfl, rfl⟩ := open_part (hval 2 _ v2 rfl rfl) h2
  clear hA0 hval0
  simp only [List.append_nil] at hW'
  refine (field_any a1 a2 b1 b2 c1 c2 W (tabs_of_laid hL)).mono fun e W' ⟨he, bel⟩ => ?_
  subst he
  have nx : ∀ x ∈ ([] : List MemPlace), x.block < W.heap.size := fun _ h => by cases h
  refine ⟨_, rfl, _, _, _, [], [], [], hW', ?_, ?_, ?_, bel.frame _, fun h => by cases h⟩
  · exact trodAll_mk1 (shut_bool Tryz.underlying4 _)
  · exact trodAll_mk3 (Below.trod out_seat (by kernel_rfl) (of_decide_eq_true (by kernel_rfl)) h0 bel nx) (Below.trod out_seat (by kernel_rfl) (of_decide_eq_true (by kernel_rfl)) h1 bel nx) (Below.trod out_seat (by kernel_rfl) (of_decide_eq_true (by kernel_rfl)) h2 bel nx)
  · rfl

theorem field_row : Rows.WeightFieldSaid :=
  OpenClaim.holds_of_wide 8 Tryz.f8 rfl rfl rfl rfl rfl rfl rfl ⟨rfl, rfl, rfl, rfl, rfl⟩ rfl rfl rfl rfl rfl (by kernel_rfl) Tryz.func8 (by kernel_rfl)
    (of_decide_eq_true (by kernel_rfl)) (by unfold Func.isWrapper; first | (rw [if_pos (by decide +kernel)]; kernel_rfl) | (rw [if_neg (by decide +kernel)]; exact ⟨rfl, rfl⟩))
    (fun os started H enc _ => field_lifted os started H enc)

theorem field_card : Rows.WeightFieldCardSaid :=
  Claim7.holds_tied_plain_at .later [] [.data, .data, .data, .data, .sentinel, .sentinel, .pinned] true Rows.weightFieldCard.stood.harness true field_row (fun _ h => by cases h) (by kernel_rfl) (fun _ h => by cases h) weightField_row_tie rfl ⟨rfl, rfl⟩ (by kernel_rfl) rfl
    (fun f fn hf hfn => by
      obtain rfl : f = 8 := Option.some.inj ((show Tryz.prog.funcNamed "cresset/cressetlaw01.WeightField" = some 8 by kernel_rfl).symm.trans hf) |>.symm
      obtain rfl : fn = Tryz.f8 := (Option.some.inj (Tryz.func8.symm.trans hfn)).symm
      exact ⟨by kernel_rfl, fun j t ht => by
        rw [Tryz.params8] at ht
        have hm : t ∈ [24, 24, 24] := by simpa using Array.mem_of_getElem? ht
        have hall : ([24, 24, 24].all fun u => !Tryz.prog.wantsStandIn u) = true := by kernel_rfl
        exact (show Tryz.prog.wantsStandIn t = false by simpa using List.all_eq_true.1 hall t hm)⟩)
    (by kernel_rfl)
#print axioms field_card
end Go.Proofs.YthbpadjhlkdpeaaGreatDoor
