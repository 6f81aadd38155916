/- The parts LawTextsLift of a proof, put together by program (merge.py). -/
import Derived.Test.YthbpadjhlkdpeaaGreatDoorG37
import Derived.Test.YthbpadjhlkdpeaaGreatDoorG38
/- WeightTexts: for every fraction of two strings, every string and every integer the law returns true and each argument reads behind the call as it read before: the row without its closed facts. Conditions: the package-level variables that the row lists start as the text of the program lays them (the tie is given, over the pruned copy); the row is unfollowed and recurses. -/
namespace Go.Proofs.YthbpadjhlkdpeaaGreatDoor
open Go.ChangeShapes Go.WideShapes Go.ChangeAt Go.RowKit

set_option maxRecDepth 100000 in
theorem texts_lifted (os : Os) (started : os.Started) (H : Type) (enc : TypeId × Value → H) :
    ReturnsInHanded {} Tryz.checked os 12 .any (fun w args => (Rows.weightTextsSpec.pre enc Tryz.prog Tryz.f12 Rows.weightTextsRow.domain false w args ∧ laidMetH Tryz.prog laid8 w) ∧ sizedMet enc Tryz.prog Tryz.f12 (OpenSpec.ofChange Rows.weightTextsSpec) false w args)
      (Rows.weightTextsSpec.post enc Tryz.prog Tryz.f12 false true false false) := by
  refine handed_and_shaped (C := Tryz.checked) (X := fun w _ => laidMetH Tryz.prog laid8 w) (fun _ _ _ hh h => h.of_heap hh) own_seat started (by kernel_rfl) Tryz.func12
    (ChangeSpec.witness_shaped (enc := enc) (C := Tryz.checked) (os := os) (X := fun w _ => laidMetH Tryz.prog laid8 w) false (World.laidAll Tryz.prog os laid8) #[.agg #[.string ⟨#[]⟩, .string ⟨#[]⟩], .string ⟨#[]⟩, .int .i64 0] 8 (World.laidAll_os _ _ _)
      (World.shaped_of_ZipB (by kernel_rfl) (by kernel_rfl)) (by kernel_rfl) (by kernel_rfl) (by kernel_rfl) (met8 os _)) ?_
  intro W base args ds gs before hval0 hW hL hsh
  have hval : ∀ (j : Nat) t v, Tryz.f12.params[j]? = some t → args[j]? = some v → Value.okWide Tryz.prog W .any base t v := hval0
  have hW' := hW
  obtain ⟨p, q, hA0, hV, rfl, _, _⟩ := hW
  have hA : DataW.TrodAll enc Tryz.prog W 0 (fun _ => true) true Tryz.f12.params.toList args.toList ds p := hA0
  rw [Tryz.params12] at hA hval
  obtain ⟨v0, v1, v2, d0, d1, d2, p0, p1, p2, rfl, rfl, rfl, h0, h1, h2⟩ := trodAll_three hA
  obtain ⟨rfl, rfl⟩ := trodVars_none hV
  obtain ⟨s0, t0, rfl, rfl⟩ := open_part (hval 0 _ v0 rfl rfl) h0
  obtain ⟨s1, rfl, rfl, rfl, _⟩ := ChangeMaps.open_string Tryz.underlying9 (hval 1 _ v1 rfl rfl) h1
  obtain ⟨a2, rfl, rfl, rfl, wa2⟩ := open_int Tryz.underlying3 (hval 2 _ v2 rfl rfl) h2
  have ha2 : -9223372036854775808 ≤ a2 ∧ a2 ≤ 9223372036854775807 := by simpa [Lit.wf, IntKind.min, IntKind.max, IntKind.signed, IntKind.bits] using wa2
  clear hA0 hval0
  simp only [List.append_nil] at hW'
  refine (texts_law s0 t0 s1 a2 ha2.1 ha2.2 W (tabs_of_laid8 hL) (tens_of_laid8 hL) (maxV_of_shape hsh)).mono fun e W' ⟨he, bel⟩ => ?_
  subst he
  have nx : ∀ x ∈ ([] : List MemPlace), x.block < W.heap.size := fun _ h => by cases h
  refine ⟨_, rfl, _, _, _, [], [], [], hW', ?_, ?_, ?_, bel.frame _, fun h => by cases h⟩
  · exact trodAll_mk1 (shut_bool Tryz.underlying4 _)
  · have h9 := trodAll_mk3 (Below.trod out_seat (by kernel_rfl) (of_decide_eq_true (by kernel_rfl)) h0 bel nx) (Below.trod out_seat (by kernel_rfl) (of_decide_eq_true (by kernel_rfl)) h1 bel nx) (Below.trod out_seat (by kernel_rfl) (of_decide_eq_true (by kernel_rfl)) h2 bel nx)
    first | exact h9 | (simpa using h9)
  · rfl
end Go.Proofs.YthbpadjhlkdpeaaGreatDoor
