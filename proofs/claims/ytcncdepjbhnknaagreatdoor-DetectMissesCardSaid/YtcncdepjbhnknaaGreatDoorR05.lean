/- The parts DOps, Slope, Env of a proof, put together by program (merge6.py). -/
import Derived.Test.YtcncdepjbhnknaaGreatDoorH12
import Derived.Test.YtcncdepjbhnknaaGreatDoorR04
import Derived.Test.YtcncdepjbhnknaaGreatDoorR03
import Derived.Test.YtcncdepjbhnknaaGreatDoorH07
set_option linter.unusedVariables false
set_option linter.unusedSimpArgs false
namespace Go.Proofs.YtcncdepjbhnknaaGreatDoor
open Go.RowKit Go.Shelf
attribute [local go_sem ↓] Go.wp_at_zero Go.wp_at_succ

set_option maxRecDepth 100000 in
theorem rzero_any (w : World) : Calls Tryz.prog 87 #[] w (ValPost (pV ⟨#[48]⟩ ⟨#[49]⟩) w) := by
  go_enter Tryz.func87, Tryz.ntmps87
  go_wp2
  have HB1 : Hid (Below w.heap.size w (w.alloc (pObj ⟨#[48]⟩ ⟨#[49]⟩))) := (Below.refl _ w).alloc (Nat.le_refl _) _
  have c0 := cell_new w #[.string ⟨#[48]⟩, .string ⟨#[49]⟩] 46 0 rfl
  have c1 := cell_new w #[.string ⟨#[48]⟩, .string ⟨#[49]⟩] 46 1 rfl
  refine bodyPost_ret (v := pV ⟨#[48]⟩ ⟨#[49]⟩) (by simp [results, Tryz.f87, go_sem, c0, c1]) rfl ⟨rfl, HB1.out⟩
theorem radd_to {q r p : Rat} {s t u v x y : ByteArray} (ha : IsP q s t) (hb : IsP r u v) (hx : IsP p x y) (hq : q + r = p) (w : World) :
    Calls Tryz.prog 83 #[pV s t, pV u v] w (ValPost (.tuple #[pV x y, .int .i64 0]) w) := by
  refine (radd_rat s t u v w ha.le.1 ha.le.2 hb.le.1 hb.le.2).mono ?_
  rintro e w' ⟨x', y', n, rfl, h, hbb⟩
  rcases h with ⟨h, _⟩ | ⟨_, h⟩
  · rw [ha.oks hb] at h; cases h
  · rw [ha.rat, hb.rat] at h
    obtain ⟨rfl, rfl, rfl⟩ := ans_to h hx hq
    exact ⟨rfl, hbb⟩
theorem rmul_to {q r p : Rat} {s t u v x y : ByteArray} (ha : IsP q s t) (hb : IsP r u v) (hx : IsP p x y) (hq : q * r = p) (w : World) :
    Calls Tryz.prog 78 #[pV s t, pV u v] w (ValPost (.tuple #[pV x y, .int .i64 0]) w) := by
  refine (rmul_rat s t u v w ha.le.1 ha.le.2 hb.le.1 hb.le.2).mono ?_
  rintro e w' ⟨x', y', n, rfl, h, hbb⟩
  rcases h with ⟨h, _⟩ | ⟨_, h⟩
  · rw [ha.oks hb] at h; cases h
  · rw [ha.rat, hb.rat] at h
    obtain ⟨rfl, rfl, rfl⟩ := ans_to h hx hq
    exact ⟨rfl, hbb⟩
theorem rsub_to {q r p : Rat} {s t u v x y : ByteArray} (ha : IsP q s t) (hb : IsP r u v) (hx : IsP p x y) (hq : q - r = p) (w : World) :
    Calls Tryz.prog 82 #[pV s t, pV u v] w (ValPost (.tuple #[pV x y, .int .i64 0]) w) := by
  refine (rsub_rat s t u v w ha.le.1 ha.le.2 hb.le.1 hb.le.2).mono ?_
  rintro e w' ⟨x', y', n, rfl, h, hbb⟩
  rcases h with ⟨h, _⟩ | ⟨_, h⟩
  · rw [ha.oks hb] at h; cases h
  · rw [ha.rat, hb.rat] at h
    rcases h with ⟨h, _⟩ | ⟨_, h⟩
    · have := hx.nn; grind
    · obtain ⟨rfl, rfl, rfl⟩ := ans_to h hx hq
      exact ⟨rfl, hbb⟩
theorem rdiv_to {q r p : Rat} {s t u v x y : ByteArray} (ha : IsP q s t) (hb : IsP r u v) (hx : IsP p x y) (h0 : 0 < r) (hq : q / r = p) (w : World) :
    Calls Tryz.prog 89 #[pV s t, pV u v] w (ValPost (.tuple #[pV x y, .int .i64 0]) w) := by
  refine (rdiv_rat s t u v w ha.le.1 ha.le.2 hb.le.1 hb.le.2).mono ?_
  rintro e w' ⟨x', y', n, rfl, h, hbb⟩
  rcases h with ⟨h, _⟩ | ⟨_, h⟩
  · rw [ha.oks hb] at h; cases h
  · rw [ha.rat, hb.rat] at h
    rcases h with ⟨h, _⟩ | ⟨_, h⟩
    · grind
    · obtain ⟨rfl, rfl, rfl⟩ := ans_to h hx hq
      exact ⟨rfl, hbb⟩
theorem rcmp_to {q r : Rat} {n : Int} {s t u v : ByteArray} (ha : IsP q s t) (hb : IsP r u v) (hn : sgnR q r = n) (w : World) :
    Calls Tryz.prog 88 #[pV s t, pV u v] w (ValPost (.int .i64 n) w) := by
  refine (rcompare_rat s t u v w ha.le.1 ha.le.2 hb.le.1 hb.le.2).mono ?_
  rintro e w' ⟨m, rfl, h, hbb⟩
  rcases h with ⟨h, _⟩ | ⟨_, h⟩
  · rw [ha.oks hb] at h; cases h
  · rw [ha.rat, hb.rat, hn] at h
    subst h
    exact ⟨rfl, hbb⟩
set_option maxRecDepth 100000 in
theorem rsure_any (s t : ByteArray) (n : Int) (w : World) : Calls Tryz.prog 81 #[pV s t, .int .i64 n] w (ValPost (pV s t) w) := by
  go_enter Tryz.func81, Tryz.ntmps81
  go_wp2
  have HB1 : Hid (Below w.heap.size w ((w.alloc (pObj s t)).alloc (pObj s t))) := ((Below.refl _ w).alloc (Nat.le_refl _) _).alloc (by simp) _
  have c0 := cell_new (w.alloc (pObj s t)) #[.string s, .string t] 46 (b := w.heap.size + 1) 0 (by simp)
  have c1 := cell_new (w.alloc (pObj s t)) #[.string s, .string t] 46 (b := w.heap.size + 1) 1 (by simp)
  refine bodyPost_ret (v := pV s t) (by simp [results, Tryz.f81, go_sem, c0, c1]) rfl ⟨rfl, ?_⟩
  first | exact HB1.out | (have h := HB1.out; simpa using h)
set_option maxRecDepth 100000 in
theorem rin_any (n low high : Int) (w : World) : Calls Tryz.prog 51 #[.int .i64 n, .int .i64 low, .int .i64 high] w (BoolPost w (decide (low ≤ n) && decide (n ≤ high))) := by
  by_cases h1 : low ≤ n
  · by_cases h2 : n ≤ high
    · go_enter Tryz.func51, Tryz.ntmps51
      go_wp2
      go_ret
      exact ⟨by simp [h1, h2], Below.refl _ _⟩
    · go_enter Tryz.func51, Tryz.ntmps51
      go_wp2
      go_ret
      exact ⟨by simp [h1, h2], Below.refl _ _⟩
  · go_enter Tryz.func51, Tryz.ntmps51
    go_wp2
    go_ret
    exact ⟨by rw [decide_eq_false (show ¬ low ≤ n by omega)]; rfl, Below.refl _ _⟩
set_option maxRecDepth 100000 in
set_option maxHeartbeats 1000000 in
theorem rsmall_any (s t : ByteArray) (hs : s.size ≤ 1000000) (ht : t.size ≤ 1000000) (w : World) : Calls Tryz.prog 105 #[pV s t] w (BoolPost w (smallP 18 (s, t))) := by
  obtain ⟨r, hr⟩ : ∃ r, smallP 18 (s, t) = r := ⟨_, rfl⟩
  have hal := (Below.refl w.heap.size w).alloc (Nat.le_refl _) (pObj s t)
  have HAL := Lib.hid hal
  by_cases h1 : (s.size : Int) ≤ 18
  · by_cases h2 : (t.size : Int) ≤ 18
    · cases h3 : okP s t
      · have HR : Hid (smallP 18 (s, t) = false) := by unfold smallP; show _ = _; simp [h3]
        have HE := Lib.hid (okE_no h3)
        clear h3 hr hal
        go_enter Tryz.func105, Tryz.ntmps105
        go_wp2_with fail
        refine (rcheck_any s t _ hs ht).mono ?_
        rintro e w2 ⟨rfl, hb⟩
        rw [HE.out]
        have HB := Lib.hid (HAL.out.trans (hb.mono HAL.out.size))
        clear hb
        go_wp2
        go_ret
        exact ⟨by rw [HR.out]; rfl, HB.out⟩
      · have HR : Hid (smallP 18 (s, t) = true) := by unfold smallP; show _ = _; simp [h3]; omega
        have HE := Lib.hid (okE_yes h3)
        clear h3 hr hal
        go_enter Tryz.func105, Tryz.ntmps105
        go_wp2_with fail
        refine (rcheck_any s t _ hs ht).mono ?_
        rintro e w2 ⟨rfl, hb⟩
        rw [HE.out]
        have HB := Lib.hid (HAL.out.trans (hb.mono HAL.out.size))
        clear hb
        go_wp2
        go_ret
        exact ⟨by rw [HR.out]; rfl, HB.out⟩
    · have HR : Hid (smallP 18 (s, t) = false) := by
        show _ = _
        unfold smallP
        rw [decide_eq_false (p := (s, t).2.size ≤ 18) (by show ¬ t.size ≤ 18; omega)]
        simp
      clear hr hal
      go_enter Tryz.func105, Tryz.ntmps105
      go_wp2
      go_ret
      exact ⟨by rw [HR.out]; rfl, HAL.out⟩
  · have HR : Hid (smallP 18 (s, t) = false) := by
      show _ = _
      unfold smallP
      rw [decide_eq_false (p := (s, t).1.size ≤ 18) (by show ¬ s.size ≤ 18; omega)]
      simp
    clear hr hal
    go_enter Tryz.func105, Tryz.ntmps105
    go_wp2
    go_ret
    exact ⟨by rw [HR.out]; rfl, HAL.out⟩
set_option maxRecDepth 100000 in
set_option maxHeartbeats 1000000 in
theorem rdeep_any (s t : ByteArray) (hs : s.size ≤ 1000000) (ht : t.size ≤ 1000000) (w : World) : Calls Tryz.prog 79 #[pV s t] w (BoolPost w (smallP 300 (s, t))) := by
  obtain ⟨r, hr⟩ : ∃ r, smallP 300 (s, t) = r := ⟨_, rfl⟩
  have hal := (Below.refl w.heap.size w).alloc (Nat.le_refl _) (pObj s t)
  have HAL := Lib.hid hal
  by_cases h1 : (s.size : Int) ≤ 300
  · by_cases h2 : (t.size : Int) ≤ 300
    · cases h3 : okP s t
      · have HR : Hid (smallP 300 (s, t) = false) := by unfold smallP; show _ = _; simp [h3]
        have HE := Lib.hid (okE_no h3)
        clear h3 hr hal
        go_enter Tryz.func79, Tryz.ntmps79
        go_wp2_with fail
        refine (rcheck_any s t _ hs ht).mono ?_
        rintro e w2 ⟨rfl, hb⟩
        rw [HE.out]
        have HB := Lib.hid (HAL.out.trans (hb.mono HAL.out.size))
        clear hb
        go_wp2
        go_ret
        exact ⟨by rw [HR.out]; rfl, HB.out⟩
      · have HR : Hid (smallP 300 (s, t) = true) := by unfold smallP; show _ = _; simp [h3]; omega
        have HE := Lib.hid (okE_yes h3)
        clear h3 hr hal
        go_enter Tryz.func79, Tryz.ntmps79
        go_wp2_with fail
        refine (rcheck_any s t _ hs ht).mono ?_
        rintro e w2 ⟨rfl, hb⟩
        rw [HE.out]
        have HB := Lib.hid (HAL.out.trans (hb.mono HAL.out.size))
        clear hb
        go_wp2
        go_ret
        exact ⟨by rw [HR.out]; rfl, HB.out⟩
    · have HR : Hid (smallP 300 (s, t) = false) := by
        show _ = _
        unfold smallP
        rw [decide_eq_false (p := (s, t).2.size ≤ 300) (by show ¬ t.size ≤ 300; omega)]
        simp
      clear hr hal
      go_enter Tryz.func79, Tryz.ntmps79
      go_wp2
      go_ret
      exact ⟨by rw [HR.out]; rfl, HAL.out⟩
  · have HR : Hid (smallP 300 (s, t) = false) := by
      show _ = _
      unfold smallP
      rw [decide_eq_false (p := (s, t).1.size ≤ 300) (by show ¬ s.size ≤ 300; omega)]
      simp
    clear hr hal
    go_enter Tryz.func79, Tryz.ntmps79
    go_wp2
    go_ret
    exact ⟨by rw [HR.out]; rfl, HAL.out⟩

end Go.Proofs.YtcncdepjbhnknaaGreatDoor
namespace Go.Proofs.YtcncdepjbhnknaaGreatDoor
open Go.RowKit Go.Shelf
attribute [local go_sem ↓] Go.wp_at_zero Go.wp_at_succ

abbrev S6 (g U : Nat) (s0 t0 s1 t1 x y : ByteArray) (w' : World) : Prop := w'.cell? ⟨g, 0, none⟩ = some (.string s0) ∧ w'.cell? ⟨g, 1, none⟩ = some (.string t0) ∧
  w'.cell? ⟨g + 1, 0, none⟩ = some (.string s1) ∧ w'.cell? ⟨g + 1, 1, none⟩ = some (.string t1) ∧ w'.cell? ⟨U, 0, none⟩ = some (.string x) ∧ w'.cell? ⟨U, 1, none⟩ = some (.string y)
set_option maxRecDepth 100000 in
set_option maxHeartbeats 4000000 in
theorem rslope_to {a b c d : Rat} {s0 t0 u0 v0 s1 t1 u1 v1 x1 y1 x2 y2 x y : ByteArray} (hc : IsP c s0 t0) (ha : IsP a u0 v0) (hd : IsP d s1 t1) (hb : IsP b u1 v1) (h1 : IsP (b - a) x1 y1) (h2 : IsP (d - c) x2 y2) (h3 : IsP ((b - a) / (d - c)) x y) (hp : 0 < d - c)
    (w : World) : Calls Tryz.prog 84 #[.agg #[.string s0, .string t0, .string u0, .string v0], .agg #[.string s1, .string t1, .string u1, .string v1]] w (ValPost (pV x y) w) := by
  have HC := Lib.hid hc
  have HA := Lib.hid ha
  have HD := Lib.hid hd
  have HBB := Lib.hid hb
  have H1 := Lib.hid h1
  have H2 := Lib.hid h2
  have H3 := Lib.hid h3
  have HP := Lib.hid hp
  clear hc ha hd hb h1 h2 h3 hp
  go_enter Tryz.func84, Tryz.ntmps84
  go_wp2_with fail
  obtain ⟨w0, hw0⟩ : ∃ w0, ((w.alloc (bO s0 t0 u0 v0)).alloc (bO s1 t1 u1 v1)).alloc (pObj ⟨#[]⟩ ⟨#[]⟩) = w0 := ⟨_, rfl⟩
  rw [hw0]
  have HX0 : Hid (Boxes w.heap.size [bO s0 t0 u0 v0, bO s1 t1 u1 v1, pObj ⟨#[]⟩ ⟨#[]⟩] w0) := by rw [← hw0]; exact Boxes.three w _ _ _
  have HB0 : Hid (Below w.heap.size w w0) := by rw [← hw0]; exact (((Below.refl _ w).alloc (Nat.le_refl _) _).alloc (by simp) _).alloc (by simp <;> omega) _
  clear hw0
  refine (rsub_to HBB.out HA.out H1.out rfl _).mono ?_
  rintro e w1 ⟨rfl, hb⟩
  have HX1 := Lib.hid (HX0.out.below hb HX0.out.lt)
  have HB1 : Hid (Below w.heap.size w w1) := HB0.out.trans (hb.mono HB0.out.size)
  clear hb
  go_wp2_with fail
  refine (rsure_any x1 y1 0 _).mono ?_
  rintro e w2 ⟨rfl, hb⟩
  have HX2 := Lib.hid (HX1.out.below hb HX1.out.lt)
  have HB2 : Hid (Below w.heap.size w w2) := HB1.out.trans (hb.mono HB1.out.size)
  clear hb
  go_wp2_with fail
  obtain ⟨U, hU⟩ : ∃ U, w2.heap.size = U := ⟨_, rfl⟩
  obtain ⟨W, hW⟩ : ∃ W, w2.alloc (pObj x1 y1) = W := ⟨_, rfl⟩
  have hal : Below w2.heap.size w2 W := by rw [← hW]; exact (Below.refl _ w2).alloc (Nat.le_refl _) _
  have HX3 : Hid (Boxes w.heap.size [bO s0 t0 u0 v0, bO s1 t1 u1 v1, pObj ⟨#[]⟩ ⟨#[]⟩] W) := HX2.out.below hal HX2.out.lt
  have HBW : Hid (Below w.heap.size w W) := HB2.out.trans (hal.mono HB2.out.size)
  have hu : W.heap[U]? = some (pObj x1 y1) := by rw [← hW, ← hU]; exact World.alloc_heap_new w2 _
  have hUl : w.heap.size + 3 ≤ U := by rw [← hU]; exact HX2.out.lt
  have hul := (Array.getElem?_eq_some_iff.1 hu).1
  have hS : ∀ w', Below W.heap.size W w' → S6 w.heap.size U s0 t0 s1 t1 x1 y1 w' := fun w' h => by
    have hx := HX3.out.below h HX3.out.lt
    have hu2 : w'.heap[U]? = some (pObj x1 y1) := (h.block U hul).trans hu
    exact ⟨hx.cell 0 0 (b := w.heap.size) rfl rfl rfl, hx.cell 0 1 (b := w.heap.size) rfl rfl rfl, hx.cell 1 0 (b := w.heap.size + 1) rfl rfl rfl, hx.cell 1 1 (b := w.heap.size + 1) rfl rfl rfl, known_cell hu2 0 rfl, known_cell hu2 1 rfl⟩
  have HS := Lib.hid hS
  have HS2 : Hid (∀ w', Below W.heap.size W w' → ∀ x y, S6 w.heap.size U s0 t0 s1 t1 x1 y1 ((w'.setCell ⟨w.heap.size + 1 + 1, 0, none⟩ (.string x)).setCell ⟨w.heap.size + 1 + 1, 1, none⟩ (.string y))) := fun w' h x y => by
    obtain ⟨a0, a1, b0, b1, c0, c1⟩ := hS w' h
    refine ⟨?_, ?_, ?_, ?_, ?_, ?_⟩ <;> (rw [World.cell?_setCell_other _ _ _ _ (by simp <;> omega), World.cell?_setCell_other _ _ _ _ (by simp <;> omega)]; assumption)
  have HRB : Hid (W.heap[w.heap.size + 1 + 1]? = some (pObj ⟨#[]⟩ ⟨#[]⟩) ∧ w.heap.size + 1 + 1 < W.heap.size) := ⟨HX3.out.block 2 rfl rfl, by have h := HX3.out.lt; simp at h; omega⟩
  have HRL : Hid (w.heap.size ≤ w.heap.size + 1 + 1) := by show _ ≤ _; omega
  have HW0 : Hid (Below W.heap.size W W.drew) := (Below.refl _ W).drew
  rw [hW, hU]
  clear hW hU hal hu hUl hul hS HX0 HX1 HX2 HB0 HB1 HB2
  refine steps_plain [(true, 0), (true, 1), (true, 2), (true, 3), (true, 4), (false, 5), (true, 6), (true, 7), (false, 8), (false, 9), (true, 10), (true, 11), (false, 12), (false, 13)] (S6 w.heap.size U s0 t0 s1 t1 x1 y1) (fun _ => false)
    (by kernel_rfl) (by kernel_rfl) (fun _ _ => rfl) (fun _ _ o _ _ h => by cases o <;> exact h) (HS.out _ HW0.out) ?_
  iterate 5
    refine steps_read _ rfl rfl (fun w' hS => by obtain ⟨a0, a1, b0, b1, c0, c1⟩ := hS; go_simp; rfl) ?_
    simp only [Act.put, List.setIfInBounds_toArray, List.set_cons_zero, List.set_cons_succ]
  refine steps_write rfl rfl fun K hK => ?_
  go_simp
  go_at_call 82
  refine (rsub_to HD.out HC.out H2.out rfl _).mono ?_
  rintro e w3 ⟨rfl, hb⟩
  have HW3 : Hid (Below W.heap.size W w3) := HW0.out.trans (hb.mono HW0.out.size)
  have hS9 := HS.out w3 HW3.out
  refine hK _ _ (.inr hS9) ?_
  clear hK K hb hS9
  iterate 2
    refine steps_read _ rfl rfl (fun w' hS => by go_simp; rfl) ?_
    simp only [Act.put, List.setIfInBounds_toArray, List.set_cons_zero, List.set_cons_succ]
  refine steps_write rfl rfl fun K hK => ?_
  go_simp
  go_at_call 81
  refine (rsure_any x2 y2 0 _).mono ?_
  rintro e w4 ⟨rfl, hb⟩
  have HW4 : Hid (Below W.heap.size W w4) := HW3.out.trans (hb.mono HW3.out.size)
  have hS9 := HS.out w4 HW4.out
  refine hK _ _ (.inr hS9) ?_
  clear hK K hb hS9
  refine steps_write rfl rfl fun K hK => ?_
  go_simp
  go_at_call 89
  refine (rdiv_to H1.out H2.out H3.out HP.out rfl _).mono ?_
  rintro e w5 ⟨rfl, hb⟩
  have HW5 : Hid (Below W.heap.size W w5) := HW4.out.trans (hb.mono HW4.out.size)
  have hS9 := HS.out w5 HW5.out
  refine hK _ _ (.inr hS9) ?_
  clear hK K hb hS9
  iterate 2
    refine steps_read _ rfl rfl (fun w' hS => by go_simp; rfl) ?_
    simp only [Act.put, List.setIfInBounds_toArray, List.set_cons_zero, List.set_cons_succ]
  refine steps_write rfl rfl fun K hK => ?_
  go_simp
  go_at_call 81
  refine (rsure_any x y 0 _).mono ?_
  rintro e w6 ⟨rfl, hb⟩
  have HW6 : Hid (Below W.heap.size W w6) := HW5.out.trans (hb.mono HW5.out.size)
  have hS9 := HS.out w6 HW6.out
  refine hK _ _ (.inr hS9) ?_
  clear hK K hb hS9
  have hbk : w6.heap[w.heap.size + 1 + 1]? = some (pObj ⟨#[]⟩ ⟨#[]⟩) := (HW6.out.block _ HRB.out.2).trans HRB.out.1
  have r0 := known_cell hbk 0 rfl
  have r1 := known_cell hbk 1 rfl
  have f0 := known_frozen hbk 0
  have f1 := known_frozen hbk 1
  refine steps_write rfl rfl fun K hK => ?_
  go_simp
  have q := two_put_cells hbk (.string x) (.string y)
  have HBQ : Hid (Below w.heap.size w ((w6.setCell ⟨w.heap.size + 1 + 1, 0, none⟩ (.string x)).setCell ⟨w.heap.size + 1 + 1, 1, none⟩ (.string y))) := two_put_below (HBW.out.trans (HW6.out.mono HBW.out.size)) (b := w.heap.size + 1 + 1) HRL.out (.string x) (.string y)
  have hS9 := HS2.out w6 HW6.out x y
  refine hK _ _ (.inr hS9) ?_
  clear hK K hS9
  refine steps_end ?_
  obtain ⟨w9, hw9⟩ : ∃ w9, (w6.setCell ⟨w.heap.size + 1 + 1, 0, none⟩ (.string x)).setCell ⟨w.heap.size + 1 + 1, 1, none⟩ (.string y) = w9 := ⟨_, rfl⟩
  rw [hw9] at q HBQ ⊢
  obtain ⟨q0, q1⟩ := q
  clear r0 r1 f0 f1 hw9 hbk
  go_wp2
  refine bodyPost_ret (v := pV x y) (by simp [results, Tryz.f84, go_sem, q0, q1]) rfl ⟨rfl, HBQ.out⟩
end Go.Proofs.YtcncdepjbhnknaaGreatDoor
namespace Go.Proofs.YtcncdepjbhnknaaGreatDoor
open Go.RowKit

structure SP where
  P : World → Prop
  fp : Nat → Prop
  st : ∀ {w w' : World}, P w → Keeps fp w w' → P w'
structure Env (B : Nat) (w0 : World) (bs : List (Nat × Obj)) (ps : List SP) (w : World) : Prop where
  base : Below B w0 w
  own : B ≤ w.heap.size
  cells : ∀ (i : Nat) (p : Nat × Obj), bs[i]? = some p → B ≤ p.1 ∧ w.heap[p.1]? = some p.2
  apart : ∀ (i j : Nat) (p q : Nat × Obj), bs[i]? = some p → bs[j]? = some q → p.1 = q.1 → i = j
  props : ∀ (i : Nat) (q : SP), ps[i]? = some q → q.P w ∧ (∀ b, q.fp b → b < w.heap.size) ∧ (∀ (j : Nat) (p : Nat × Obj), bs[j]? = some p → ¬ q.fp p.1)

section
variable {B : Nat} {w0 w w' : World} {bs : List (Nat × Obj)} {ps : List SP}
theorem Env.start (w : World) : Env w.heap.size w [] [] w := ⟨Below.refl _ w, Nat.le_refl _, fun i p h => by simp at h, fun i j p q h => by simp at h, fun i q h => by simp at h⟩
theorem Env.after {C : Nat} (h : Env B w0 bs ps w) (hb : Below C w w') (hC : w.heap.size ≤ C) : Env B w0 bs ps w' where
  base := h.base.trans (hb.mono (Nat.le_trans h.own hC))
  own := Nat.le_trans h.own hb.size
  cells := fun i p hp => by
    obtain ⟨h1, h2⟩ := h.cells i p hp
    refine ⟨h1, ?_⟩
    rw [hb.block _ (Nat.lt_of_lt_of_le (Array.getElem?_eq_some_iff.1 h2).1 hC)]
    exact h2
  apart := h.apart
  props := fun i q hq => by
    obtain ⟨h1, h2, h3⟩ := h.props i q hq
    exact ⟨q.st h1 ⟨hb.os, hb.tape, hb.output, hb.size, fun k hk _ => hb.block k (by omega)⟩, fun b hb2 => Nat.lt_of_lt_of_le (h2 b hb2) hb.size, h3⟩
theorem Env.step (h : Env B w0 bs ps w) (hb : Below w.heap.size w w') : Env B w0 bs ps w' := h.after hb (Nat.le_refl _)
theorem Env.drew (h : Env B w0 bs ps w) : Env B w0 bs ps w.drew := h.step (Below.refl _ w).drew
theorem Env.push (h : Env B w0 bs ps w) (o : Obj) {g : Nat} (hg : g = w.heap.size) : Env B w0 ((g, o) :: bs) ps (w.alloc o) := by
  subst hg
  have hb : Below w.heap.size w (w.alloc o) := (Below.refl _ w).alloc (Nat.le_refl _) o
  have h' := h.step hb
  have hlt : ∀ (j : Nat) (p : Nat × Obj), bs[j]? = some p → p.1 < w.heap.size := fun j p hp => (Array.getElem?_eq_some_iff.1 (h.cells j p hp).2).1
  refine ⟨h'.base, h'.own, fun i p hp => ?_, fun i j p q hp hq e => ?_, fun i q hq => ?_⟩
  · cases i with
    | zero =>
      obtain rfl := Option.some.inj hp
      exact ⟨h.own, World.alloc_heap_new w o⟩
    | succ i => exact h'.cells i p (by simpa using hp)
  · cases i with
    | zero =>
      cases j with
      | zero => rfl
      | succ j =>
        obtain rfl := Option.some.inj hp
        have := hlt j q (by simpa using hq)
        simp only at e
        omega
    | succ i =>
      cases j with
      | zero =>
        obtain rfl := Option.some.inj hq
        have := hlt i p (by simpa using hp)
        simp only at e
        omega
      | succ j => rw [h.apart i j p q (by simpa using hp) (by simpa using hq) e]
  · obtain ⟨h1, h2, h3⟩ := h'.props i q hq
    refine ⟨h1, h2, fun j p hp hc => ?_⟩
    cases j with
    | zero =>
      obtain rfl := Option.some.inj hp
      have := (h.props i q hq).2.1 _ hc
      simp only at this
      omega
    | succ j => exact h3 j p (by simpa using hp) hc
theorem Env.block (h : Env B w0 bs ps w) (i : Nat) {g : Nat} {o : Obj} (hi : bs[i]? = some (g, o)) : w.heap[g]? = some o := (h.cells i _ hi).2
theorem Env.lt (h : Env B w0 bs ps w) (i : Nat) {g : Nat} {o : Obj} (hi : bs[i]? = some (g, o)) : g < w.heap.size := (Array.getElem?_eq_some_iff.1 (h.block i hi)).1
theorem Env.le (h : Env B w0 bs ps w) (i : Nat) {g : Nat} {o : Obj} (hi : bs[i]? = some (g, o)) : B ≤ g := (h.cells i _ hi).1
theorem Env.cell (h : Env B w0 bs ps w) (i j : Nat) {g : Nat} {cs : Array Value} {T : TypeId} {v : Value} (hi : bs[i]? = some (g, .cells cs T (0, 0))) (hv : cs[j]? = some v) : w.cell? ⟨g, j, none⟩ = some v := known_cell (h.block i hi) j hv
theorem Env.free (h : Env B w0 bs ps w) (i j : Nat) {g : Nat} {cs : Array Value} {T : TypeId} (hi : bs[i]? = some (g, .cells cs T (0, 0))) : w.frozen? ⟨g, j, none⟩ = false := known_frozen (h.block i hi) j
theorem Env.put (h : Env B w0 bs ps w) (i : Nat) {g : Nat} {o : Obj} (o' : Obj) (hi : bs[i]? = some (g, o)) (hw : w'.heap[g]? = some o') (hk : Keeps (fun b => b ≠ g) w w') : Env B w0 (bs.set i (g, o')) ps w' := by
  have hil : i < bs.length := (List.getElem?_eq_some_iff.1 hi).1
  have hget : ∀ (j : Nat) (p : Nat × Obj), (bs.set i (g, o'))[j]? = some p → (j = i ∧ p = (g, o')) ∨ (j ≠ i ∧ bs[j]? = some p) := fun j p hp => by
    by_cases e : j = i
    · subst e
      rw [List.getElem?_set_self hil] at hp
      exact .inl ⟨rfl, (Option.some.inj hp).symm⟩
    · rw [List.getElem?_set_ne (Ne.symm e)] at hp
      exact .inr ⟨e, hp⟩
  have hB : B ≤ g := h.le i hi
  refine ⟨h.base.trans ⟨hk.os, hk.tape, hk.output, hk.size, fun k hlt => hk.block k (by have := h.own; omega) (by omega)⟩, Nat.le_trans h.own hk.size, fun j p hp => ?_, fun j k p q hp hq e => ?_, fun j q hq => ?_⟩
  · rcases hget j p hp with ⟨rfl, rfl⟩ | ⟨hne, hp⟩
    · exact ⟨hB, hw⟩
    · obtain ⟨h1, h2⟩ := h.cells j p hp
      refine ⟨h1, ?_⟩
      rw [hk.block _ (Array.getElem?_eq_some_iff.1 h2).1 (fun e => hne (h.apart j i p _ hp hi e))]
      exact h2
  · rcases hget j p hp with ⟨e1, e2⟩ | ⟨hne, hp'⟩
    · rcases hget k q hq with ⟨e3, e4⟩ | ⟨hne2, hq'⟩
      · rw [e1, e3]
      · rw [e2] at e
        rw [e1]
        exact h.apart i k _ q hi hq' e
    · rcases hget k q hq with ⟨e3, e4⟩ | ⟨hne2, hq'⟩
      · rw [e4] at e
        rw [e3]
        exact h.apart j i p _ hp' hi e
      · exact h.apart j k p q hp' hq' e
  · obtain ⟨h1, h2, h3⟩ := h.props j q hq
    have hng : ¬ q.fp g := h3 i _ hi
    refine ⟨q.st h1 (hk.mono fun b _ hb e => hng (e ▸ hb)), fun b hb => Nat.lt_of_lt_of_le (h2 b hb) hk.size, fun k p hp hc => ?_⟩
    rcases hget k p hp with ⟨rfl, rfl⟩ | ⟨_, hp⟩
    · exact hng hc
    · exact h3 k p hp hc
theorem Env.store (h : Env B w0 bs ps w) (i j : Nat) {g : Nat} {cs : Array Value} {T : TypeId} (v : Value) (hi : bs[i]? = some (g, .cells cs T (0, 0))) : Env B w0 (bs.set i (g, .cells (cs.set! j v) T (0, 0))) ps (w.setCell ⟨g, j, none⟩ v) :=
  h.put i (.cells (cs.set! j v) T (0, 0)) hi (Joins.block_setCell (h.block i hi) v) ((Keeps.refl _ w).setCell (by simp) v)
theorem Env.tail {p : Nat × Obj} (h : Env B w0 (p :: bs) ps w) : Env B w0 bs ps w :=
  ⟨h.base, h.own, fun i q hq => h.cells (i + 1) q (by simpa using hq), fun i j p q hp hq e => by have := h.apart (i + 1) (j + 1) p q (by simpa using hp) (by simpa using hq) e; omega,
    fun i q hq => ⟨(h.props i q hq).1, (h.props i q hq).2.1, fun j p hp => (h.props i q hq).2.2 (j + 1) p (by simpa using hp)⟩⟩
theorem Env.fill {g : Nat} {a b : Value} {T : TypeId} (h : Env B w0 ((g, .cells #[a, b] T (0, 0)) :: bs) ps w) (x y : Value) : Env B w0 ((g, .cells #[x, y] T (0, 0)) :: bs) ps ((w.setCell ⟨g, 0, none⟩ x).setCell ⟨g, 1, none⟩ y) :=
  h.put 0 (.cells #[x, y] T (0, 0)) rfl (two_put (h.block 0 rfl) x y) (((Keeps.refl _ w).setCell (by simp) x).setCell (by simp) y)
theorem Env.laid (h : Env B w0 bs ps w) (hb : Below w.heap.size w w') {g : Nat} {o : Obj} (hg : w'.heap[g]? = some o) (hle : w.heap.size ≤ g) : Env B w0 ((g, o) :: bs) ps w' := by
  have h' := h.step hb
  have hlt : ∀ (j : Nat) (p : Nat × Obj), bs[j]? = some p → p.1 < w.heap.size := fun j p hp => (Array.getElem?_eq_some_iff.1 (h.cells j p hp).2).1
  refine ⟨h'.base, h'.own, fun i p hp => ?_, fun i j p q hp hq e => ?_, fun i q hq => ?_⟩
  · cases i with
    | zero =>
      obtain rfl := Option.some.inj hp
      exact ⟨Nat.le_trans h.own hle, hg⟩
    | succ i => exact h'.cells i p (by simpa using hp)
  · cases i with
    | zero =>
      cases j with
      | zero => rfl
      | succ j =>
        obtain rfl := Option.some.inj hp
        have := hlt j q (by simpa using hq)
        simp only at e
        omega
    | succ i =>
      cases j with
      | zero =>
        obtain rfl := Option.some.inj hq
        have := hlt i p (by simpa using hp)
        simp only at e
        omega
      | succ j => rw [h.apart i j p q (by simpa using hp) (by simpa using hq) e]
  · obtain ⟨h1, h2, h3⟩ := h'.props i q hq
    refine ⟨h1, h2, fun j p hp hc => ?_⟩
    cases j with
    | zero =>
      obtain rfl := Option.some.inj hp
      have := (h.props i q hq).2.1 _ hc
      simp only at this
      omega
    | succ j => exact h3 j p (by simpa using hp) hc
theorem Env.only (h : Env B w0 bs ps w) (is : List Nat) (bs' : List (Nat × Obj)) (hb : bs' = is.filterMap (fun i => bs[i]?)) (hn : is.Nodup) : Env B w0 bs' ps w := by
  subst hb
  have hget : ∀ (k : Nat) (p : Nat × Obj), (is.filterMap (fun i => bs[i]?))[k]? = some p → ∃ i ∈ is, bs[i]? = some p := fun k p hp => by
    have := List.mem_of_getElem? hp
    rw [List.mem_filterMap] at this
    exact this
  refine ⟨h.base, h.own, fun i p hp => ?_, ?_, fun i q hq => ?_⟩
  · obtain ⟨j, _, hj⟩ := hget i p hp
    exact h.cells j p hj
  · have hp : (is.filterMap (fun i => bs[i]?)).Pairwise (fun a b => a.1 ≠ b.1) := by
      rw [List.pairwise_filterMap]
      refine List.Pairwise.imp ?_ hn
      intro a b hab p hp q hq e
      exact hab (h.apart a b p q hp hq e)
    intro i j p q h1 h2 e
    rcases Nat.lt_trichotomy i j with hlt | rfl | hlt
    · obtain ⟨l1, e1⟩ := List.getElem?_eq_some_iff.1 h1
      obtain ⟨l2, e2⟩ := List.getElem?_eq_some_iff.1 h2
      have := (List.pairwise_iff_getElem.1 hp) i j l1 l2 hlt
      rw [e1, e2] at this
      exact absurd e this
    · rfl
    · obtain ⟨l1, e1⟩ := List.getElem?_eq_some_iff.1 h1
      obtain ⟨l2, e2⟩ := List.getElem?_eq_some_iff.1 h2
      have := (List.pairwise_iff_getElem.1 hp) j i l2 l1 hlt
      rw [e1, e2] at this
      exact absurd e.symm this
  · obtain ⟨h1, h2, h3⟩ := h.props i q hq
    refine ⟨h1, h2, fun j p hp => ?_⟩
    obtain ⟨k, _, hk⟩ := hget j p hp
    exact h3 k p hk
end
end Go.Proofs.YtcncdepjbhnknaaGreatDoor
