/- WeightOrders: for every three fractions of strings the law returns true and each argument reads behind the call as it read before: the row and its tied card. Conditions: the package-level variables that the row lists start as the text of the program lays them (the tie is given, over the pruned copy); the row is unfollowed and recurses. -/
import Derived.Test.YthbpadjhlkdpeaaGreatDoorG20
import Derived.Test.YthbpadjhlkdpeaaGreatDoorG18
import Derived.Test.YthbpadjhlkdpeaaGreatDoorCards
import Derived.Test.YthbpadjhlkdpeaaGreatDoorTie
namespace Go.Proofs.YthbpadjhlkdpeaaGreatDoor
open Go.ChangeShapes Go.WideShapes Go.ChangeAt Go.RowKit

theorem sgn_lt {a b : Rat} (h : a < b) : sgnR a b = -1 := by unfold sgnR; rw [if_pos h]
theorem sgn_eq (a : Rat) : sgnR a a = 0 := by unfold sgnR; rw [if_neg (by grind), if_pos rfl]
theorem sgn_gt {a b : Rat} (h : b < a) : sgnR a b = 1 := by unfold sgnR; rw [if_neg (by grind), if_neg (by grind)]
theorem toList_inj {s t : ByteArray} (h : s.toList = t.toList) : s = t := by
  rw [ByteArray.toList_eq, ByteArray.toList_eq] at h
  rw [← str_eq s, ← str_eq t, h]
theorem str_differ {a1 a2 b1 b2 : ByteArray} (h : a1 = b1 → ¬ a2 = b2) : (a1.toList == b1.toList) = true → (a2.toList == b2.toList) = false := fun h1 => by
  rw [beq_eq_false_iff_ne]
  exact fun h2 => h (toList_inj (by simpa using h1)) (toList_inj h2)
theorem str_no48 {c : ByteArray} (h : ¬ c = ⟨#[48]⟩) : (c.toList == [48]) = false := by
  rw [beq_eq_false_iff_ne]
  refine fun h2 => h ?_
  rw [ByteArray.toList_eq] at h2
  rw [← str_eq c, h2]; rfl
theorem okE_or (s t : ByteArray) : (okE s t = 2) ∨ (okE s t = 0 ∧ okP s t = true) := by
  cases h : okP s t
  · exact .inl (okE_no h)
  · exact .inr ⟨okE_yes h, rfl⟩

theorem orders_any (a1 a2 b1 b2 c1 c2 : ByteArray) (w : World) (hT : Tabs w) :
    Calls Tryz.prog 9 #[pV a1 a2, pV b1 b2, pV c1 c2] w (BoolPost w true) := by
  cases h0 : shortB 60 [(a1, a2), (b1, b2), (c1, c2)]
  · exact orders_early0 a1 a2 b1 b2 c1 c2 w hT h0
  have hs := shortB_iff.1 h0
  obtain ⟨sa1, sa2⟩ := hs (a1, a2) (by simp)
  obtain ⟨sb1, sb2⟩ := hs (b1, b2) (by simp)
  obtain ⟨sc1, sc2⟩ := hs (c1, c2) (by simp)
  dsimp only at sa1 sa2 sb1 sb2 sc1 sc2
  have hz : a1.size ≤ 1000000 ∧ a2.size ≤ 1000000 ∧ b1.size ≤ 1000000 ∧ b2.size ≤ 1000000 ∧ c1.size ≤ 1000000 ∧ c2.size ≤ 1000000 := by omega
  rcases okE_or a1 a2 with h1 | ⟨h1, ka⟩
  · exact orders_early1 a1 a2 b1 b2 c1 c2 w hT h0 hz h1
  rcases okE_or b1 b2 with h2 | ⟨h2, kb⟩
  · exact orders_early2 a1 a2 b1 b2 c1 c2 w hT h0 hz h1 h2
  rcases okE_or c1 c2 with h3 | ⟨h3, kc⟩
  · exact orders_early3 a1 a2 b1 b2 c1 c2 w hT h0 hz h1 h2 h3
  have ia := isP_of_ok ka
  have ib := isP_of_ok kb
  have ic := isP_of_ok kc
  have za : Sz 60 (ratP a1 a2) := ia.sz sa1 sa2
  have zb : Sz 60 (ratP b1 b2) := ib.sz sb1 sb2
  have zc : Sz 60 (ratP c1 c2) := ic.sz sc1 sc2
  generalize ratP a1 a2 = qa at ia za
  generalize ratP b1 b2 = qb at ib zb
  generalize ratP c1 c2 = qc at ic zc
  have na := ia.nn
  have nb := ib.nn
  have nc := ic.nn
  have n1 : 0 ≤ qa + qc := by grind
  have n2 : 0 ≤ qb + qc := by grind
  have n3 : 0 ≤ qa * qc := Rat.mul_nonneg na nc
  have n4 : 0 ≤ qb * qc := Rat.mul_nonneg nb nc
  obtain ⟨x1, x2, ix⟩ := sz_isP n1 (Sz.add na nc za zc) (by decide) (by decide)
  obtain ⟨y1, y2, iy⟩ := sz_isP n2 (Sz.add nb nc zb zc) (by decide) (by decide)
  obtain ⟨p1, p2, ip⟩ := sz_isP n3 (Sz.mul na nc za zc) (by decide) (by decide)
  obtain ⟨q1, q2, iq⟩ := sz_isP n4 (Sz.mul nb nc zb zc) (by decide) (by decide)
  have hlt : qa < qb → qc ≠ 0 → qa * qc < qb * qc := fun h h0 => Rat.mul_lt_mul_of_pos_right h (Rat.lt_of_le_of_ne nc (Ne.symm h0))
  have hgt : qb < qa → qc ≠ 0 → qb * qc < qa * qc := fun h h0 => Rat.mul_lt_mul_of_pos_right h (Rat.lt_of_le_of_ne nc (Ne.symm h0))
  have hz0 : qc = 0 → sgnR (qa * qc) (qb * qc) = 0 := fun h => by rw [h, Rat.mul_zero, Rat.mul_zero]; exact sgn_eq 0
  by_cases k1 : qa < qb
  · have hab : (a1.toList == b1.toList) = true → (a2.toList == b2.toList) = false := str_differ fun e1 e2 => by have := ia.inj ib e1 e2; grind
    have g1 : sgnR (qa + qc) (qb + qc) = -1 := sgn_lt (by grind)
    by_cases hc : qc = 0
    · have hcz := zero_num ic hc
      subst hcz
      exact orders_main10 w hT h0 hz h1 h2 h3 ia ib ic ia ix iy ip iq (sgn_lt k1) k1 rfl rfl rfl rfl (hz0 hc) (sgn_gt k1) g1 hab
    · exact orders_main00 w hT h0 hz h1 h2 h3 ia ib ic ia ix iy ip iq (sgn_lt k1) k1 rfl rfl rfl rfl (sgn_lt (hlt k1 hc)) (sgn_gt k1) g1 (str_no48 fun h => hc (num_none ic h)) hab
  by_cases k2 : qa = qb
  · subst k2
    obtain ⟨rfl, rfl⟩ := ia.one ib
    obtain ⟨d1, d2, id⟩ := sz_isP (q := qa - qa) (by grind) (Sz.sub na na (by grind) za za) (by decide) (by decide)
    by_cases hc : qc = 0
    · have hcz := zero_num ic hc
      subst hcz
      exact orders_main11 w hT h0 hz h1 h2 h3 ia ib ic id ix iy ip iq (sgn_eq qa) rfl rfl rfl rfl rfl (sgn_eq _) (sgn_eq _) (sgn_eq _)
    · exact orders_main01 w hT h0 hz h1 h2 h3 ia ib ic id ix iy ip iq (sgn_eq qa) rfl rfl rfl rfl rfl (sgn_eq _) (sgn_eq _) (sgn_eq _) (str_no48 fun h => hc (num_none ic h))
  · have k3 : qb < qa := by grind
    have hab : (a1.toList == b1.toList) = true → (a2.toList == b2.toList) = false := str_differ fun e1 e2 => k2 (ia.inj ib e1 e2)
    have g1 : sgnR (qa + qc) (qb + qc) = 1 := sgn_gt (by grind)
    obtain ⟨d1, d2, id⟩ := sz_isP (q := qa - qb) (by grind) (Sz.sub na nb (by grind) za zb) (by decide) (by decide)
    by_cases hc : qc = 0
    · have hcz := zero_num ic hc
      subst hcz
      exact orders_main12 w hT h0 hz h1 h2 h3 ia ib ic id ix iy ip iq (sgn_gt k3) rfl rfl rfl rfl rfl (hz0 hc) (sgn_lt k3) g1 hab
    · exact orders_main02 w hT h0 hz h1 h2 h3 ia ib ic id ix iy ip iq (sgn_gt k3) rfl rfl rfl rfl rfl (sgn_gt (hgt k3 hc)) (sgn_lt k3) g1 (str_no48 fun h => hc (num_none ic h)) hab

set_option maxRecDepth 100000 in
theorem orders_lifted (os : Os) (started : os.Started) (H : Type) (enc : TypeId × Value → H) :
    ReturnsInHanded {} Tryz.checked os 9 .any (fun w args => (Rows.weightOrdersSpec.pre enc Tryz.prog Tryz.f9 Rows.weightOrdersRow.domain false w args ∧ laidMetH Tryz.prog laid7 w) ∧ sizedMet enc Tryz.prog Tryz.f9 (OpenSpec.ofChange Rows.weightOrdersSpec) false w args)
      (Rows.weightOrdersSpec.post enc Tryz.prog Tryz.f9 false true false false) := by
  refine returnsInHanded_of_change_and (C := Tryz.checked) (X := fun w _ => laidMetH Tryz.prog laid7 w) (fun _ _ _ hh h => h.of_heap hh) own_seat started (by kernel_rfl) Tryz.func9
    (ChangeSpec.witness_shaped (enc := enc) (C := Tryz.checked) (os := os) (X := fun w _ => laidMetH Tryz.prog laid7 w) false (World.laidAll Tryz.prog os laid7) #[pV ⟨#[]⟩ ⟨#[]⟩, pV ⟨#[]⟩ ⟨#[]⟩, pV ⟨#[]⟩ ⟨#[]⟩] 8 (World.laidAll_os _ _ _)
      (World.shaped_of_ZipB (by kernel_rfl) (by kernel_rfl)) (by kernel_rfl) (by kernel_rfl) (by kernel_rfl) (met7 os _)) ?_
  intro W base args ds gs before hval0 hW hc _ hL _
  have hval : ∀ (j : Nat) t v, Tryz.f9.params[j]? = some t → args[j]? = some v → Value.okWide Tryz.prog W .any base t v := hval0
  have hW' := hW
  obtain ⟨p, q, hA0, hV, rfl, _, _⟩ := hW
  have hA : DataW.TrodAll enc Tryz.prog W 0 (fun _ => true) true Tryz.f9.params.toList args.toList ds p := hA0
  rw [Tryz.params9] at hA hval
  obtain ⟨v0, v1, v2, d0, d1, d2, p0, p1, p2, rfl, rfl, rfl, h0, h1, h2⟩ := trodAll_three hA
  obtain ⟨rfl, rfl⟩ := trodVars_none hV
  obtain ⟨a1, a2, rfl, rfl⟩ := open_part (hval 0 _ v0 rfl rfl) h0
  obtain ⟨b1, b2, rfl, rfl⟩ := open_part (hval 1 _ v1 rfl rfl) h1
  obtain ⟨c1, c2, rfl, rfl⟩ := open_part (hval 2 _ v2 rfl rfl) h2
  clear hA0 hval0
  simp only [List.append_nil] at hW'
  refine (orders_any a1 a2 b1 b2 c1 c2 W (tabs_of_laid hL)).mono fun e W' ⟨he, bel⟩ => ?_
  subst he
  have nx : ∀ x ∈ ([] : List MemPlace), x.block < W.heap.size := fun _ h => by cases h
  refine ⟨_, rfl, _, _, _, [], [], [], hW', ?_, ?_, ?_, bel.frame _, fun h => by cases h⟩
  · exact trodAll_mk1 (shut_bool Tryz.underlying4 _)
  · exact trodAll_mk3 (Below.trod out_seat (by kernel_rfl) (of_decide_eq_true (by kernel_rfl)) h0 bel nx) (Below.trod out_seat (by kernel_rfl) (of_decide_eq_true (by kernel_rfl)) h1 bel nx) (Below.trod out_seat (by kernel_rfl) (of_decide_eq_true (by kernel_rfl)) h2 bel nx)
  · rfl

theorem orders_row : Rows.WeightOrdersSaid :=
  OpenClaim.holds_of_wide 9 Tryz.f9 rfl rfl rfl rfl rfl rfl rfl ⟨rfl, rfl, rfl, rfl, rfl⟩ rfl rfl rfl rfl rfl (by kernel_rfl) Tryz.func9 (by kernel_rfl)
    (of_decide_eq_true (by kernel_rfl)) (by unfold Func.isWrapper; first | (rw [if_pos (by decide +kernel)]; kernel_rfl) | (rw [if_neg (by decide +kernel)]; exact ⟨rfl, rfl⟩))
    (fun os started H enc _ => orders_lifted os started H enc)

theorem orders_card : Rows.WeightOrdersCardSaid :=
  Claim7.holds_tied_plain_at .later [] [.data, .data, .data, .data, .sentinel, .sentinel, .pinned] true Rows.weightOrdersCard.stood.harness true orders_row (fun _ h => by cases h) (by kernel_rfl) (fun _ h => by cases h) weightOrders_row_tie rfl ⟨rfl, rfl⟩ (by kernel_rfl) rfl
    (fun f fn hf hfn => by
      obtain rfl : f = 9 := Option.some.inj ((show Tryz.prog.funcNamed "cresset/cressetlaw01.WeightOrders" = some 9 by kernel_rfl).symm.trans hf) |>.symm
      obtain rfl : fn = Tryz.f9 := (Option.some.inj (Tryz.func9.symm.trans hfn)).symm
      exact ⟨by kernel_rfl, fun j t ht => by
        rw [Tryz.params9] at ht
        have hm : t ∈ [24, 24, 24] := by simpa using Array.mem_of_getElem? ht
        have hall : ([24, 24, 24].all fun u => !Tryz.prog.wantsStandIn u) = true := by kernel_rfl
        exact (show Tryz.prog.wantsStandIn t = false by simpa using List.all_eq_true.1 hall t hm)⟩)
    (by kernel_rfl)
#print axioms orders_card
end Go.Proofs.YthbpadjhlkdpeaaGreatDoor
