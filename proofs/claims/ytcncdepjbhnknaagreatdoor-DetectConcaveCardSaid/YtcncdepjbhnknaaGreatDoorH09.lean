/- The parts Does2 of a proof, put together by program (merge6.py). -/
import Derived.Test.YtcncdepjbhnknaaGreatDoorH08
set_option linter.unusedVariables false
set_option linter.unusedSimpArgs false
/- weight's Add and Sub: what they do with two fractions. -/
namespace Go.Proofs.YtcncdepjbhnknaaGreatDoor
open Go.RowKit Go.Shelf
attribute [local go_sem ↓] Go.wp_at_zero Go.wp_at_succ



theorem add_lim {n m k l : Nat} (h1 : (limbs 1000000000 n).length ≤ k) (h2 : (limbs 1000000000 m).length ≤ l) : (limbs 1000000000 (n + m)).length ≤ k + l + 1 := by
  refine limbs_length_le (by omega) ?_
  have a1 := val_lt (limbs_lt (B := 1000000000) (by omega) n)
  have a2 := val_lt (limbs_lt (B := 1000000000) (by omega) m)
  rw [val_limbs (by omega)] at a1 a2
  have b1 : (1000000000 : Nat) ^ (limbs 1000000000 n).length ≤ 1000000000 ^ (k + l) := Nat.pow_le_pow_right (by omega) (by omega)
  have b2 : (1000000000 : Nat) ^ (limbs 1000000000 m).length ≤ 1000000000 ^ (k + l) := Nat.pow_le_pow_right (by omega) (by omega)
  rw [Nat.pow_succ]
  omega

set_option maxRecDepth 100000 in
set_option maxHeartbeats 4000000 in
theorem add1_any {v1 v2 v3 v4 : Value} {n1 d1 n2 d2 : Nat} {w : World} (h1 : Num w v1 n1) (h2 : Num w v2 d1) (h3 : Num w v3 n2) (h4 : Num w v4 d2)
    (l1 : (limbs 1000000000 n1).length ≤ 1000) (l2 : (limbs 1000000000 d1).length ≤ 1000) (l3 : (limbs 1000000000 n2).length ≤ 1000) (l4 : (limbs 1000000000 d2).length ≤ 1000) (hd1 : 0 < d1) (hd2 : 0 < d2) (hT : Tabs w) :
    Calls Tryz.prog 63 #[.agg #[v1, v2], .agg #[v3, v4]] w (PartPost (Ans (mkRat ((n1 * d2 + n2 * d1 : Nat) : Int) (d1 * d2))) w) := by
  obtain ⟨p1, m1, c1, rfl⟩ := h1.form'
  obtain ⟨p2, m2, c2, rfl⟩ := h2.form'
  obtain ⟨p3, m3, c3, rfl⟩ := h3.form'
  obtain ⟨p4, m4, c4, rfl⟩ := h4.form'
  have H1 := Lib.hid h1
  have H2 := Lib.hid h2
  have H3 := Lib.hid h3
  have H4 := Lib.hid h4
  have HT := Lib.hid hT
  clear h1 h2 h3 h4 hT
  have M1 : Hid ((limbs 1000000000 (n1 * d2)).length ≤ 2000) := Nat.le_trans (mul_lims l1 l4) (by omega)
  have M2 : Hid ((limbs 1000000000 (n2 * d1)).length ≤ 2000) := Nat.le_trans (mul_lims l3 l2) (by omega)
  have K1 : Hid ((limbs 1000000000 (n1 * d2)).length ≤ 100000) := Nat.le_trans M1.out (by omega)
  have K2 : Hid ((limbs 1000000000 (n2 * d1)).length ≤ 100000) := Nat.le_trans M2.out (by omega)
  have HL1 : Hid ((limbs 1000000000 (n1 * d2 + n2 * d1)).length ≤ 100000) := Nat.le_trans (add_lim M1.out M2.out) (by omega)
  have HL2 : Hid ((limbs 1000000000 (d1 * d2)).length ≤ 100000) := mul_lim l2 l4
  have HD : Hid (0 < d1 * d2) := Nat.mul_pos hd1 hd2
  go_enter Tryz.func63, Tryz.ntmps63
  go_wp2_with fail
  obtain ⟨w1, hw1⟩ : ∃ w1, ((w.alloc (.cells #[.slice p1 m1 c1, .slice p2 m2 c2] 95)).alloc (.cells #[.slice p3 m3 c3, .slice p4 m4 c4] 95)).alloc (.cells #[.string ⟨#[]⟩, .string ⟨#[]⟩] 46) = w1 := ⟨_, rfl⟩
  rw [hw1]
  have HX1 : Hid (Boxes w.heap.size [.cells #[.slice p1 m1 c1, .slice p2 m2 c2] 95, .cells #[.slice p3 m3 c3, .slice p4 m4 c4] 95, .cells #[.string ⟨#[]⟩, .string ⟨#[]⟩] 46] w1) := by rw [← hw1]; exact Boxes.three w _ _ _
  have HB1 : Hid (Below w.heap.size w w1) := by rw [← hw1]; exact (((Below.refl _ w).alloc (Nat.le_refl _) _).alloc (by simp) _).alloc (by simp <;> omega) _
  clear hw1
  have ka1 := HX1.out.cell 0 0 (b := w.heap.size) rfl rfl rfl
  have kb1 := HX1.out.cell 0 1 (b := w.heap.size) rfl rfl rfl
  have kc1 := HX1.out.cell 1 0 (b := w.heap.size + 1) rfl rfl rfl
  have kd1 := HX1.out.cell 1 1 (b := w.heap.size + 1) rfl rfl rfl
  go_region_held3
    (fun w' => w'.cell? ⟨w.heap.size, 0, none⟩ = some (.slice p1 m1 c1) ∧ w'.cell? ⟨w.heap.size, 1, none⟩ = some (.slice p2 m2 c2) ∧ w'.cell? ⟨w.heap.size + 1, 0, none⟩ = some (.slice p3 m3 c3) ∧ w'.cell? ⟨w.heap.size + 1, 1, none⟩ = some (.slice p4 m4 c4))
    (first | exact ⟨ka1, kb1, kc1, kd1⟩ | exact ⟨ka2, kb2, kc2, kd2⟩ | exact ⟨ka3, kb3, kc3, kd3⟩ | exact ⟨ka4, kb4, kc4, kd4⟩ | exact ⟨ka5, kb5, kc5, kd5⟩ | exact ⟨ka6, kb6, kc6, kd6⟩ | exact ⟨(other_put _ _ _ (by omega) _).trans ka9, (other_put _ _ _ (by omega) _).trans kb9, (other_put _ _ _ (by omega) _).trans kc9, (other_put _ _ _ (by omega) _).trans kd9⟩ | exact ⟨ka9, kb9, kc9, kd9⟩)
    (first
      | (go_at_call_of 64 (Value.slice p1 m1 c1); refine (times_num (H1.out.after HB1.out.drew (Nat.le_refl _)) (H4.out.after HB1.out.drew (Nat.le_refl _)) l1 l4).mono ?_; rintro e w2 ⟨va, rfl, hv, hb⟩; obtain ⟨pa, ma, ca, rfl⟩ := hv.form'; have HA := Lib.hid hv;  have HX2 := Lib.hid (HX1.out.drew.below hb HX1.out.lt); have HB2 : Hid (Below w.heap.size w w2) := HB1.out.drew.trans (hb.mono HB1.out.drew.size); have ka2 := HX2.out.cell 0 0 (b := w.heap.size) rfl rfl rfl; have kb2 := HX2.out.cell 0 1 (b := w.heap.size) rfl rfl rfl; have kc2 := HX2.out.cell 1 0 (b := w.heap.size + 1) rfl rfl rfl; have kd2 := HX2.out.cell 1 1 (b := w.heap.size + 1) rfl rfl rfl; clear hv hb)
      | (go_at_call_of 64 (Value.slice p3 m3 c3); refine (times_num (H3.out.after HB2.out (Nat.le_refl _)) (H2.out.after HB2.out (Nat.le_refl _)) l3 l2).mono ?_; rintro e w3 ⟨vb, rfl, hv, hb⟩; obtain ⟨pb, mb, cb, rfl⟩ := hv.form'; have HC := Lib.hid hv; have HA3 := Lib.hid (HA.out.after hb (Nat.le_refl _)); have HX3 := Lib.hid (HX2.out.below hb HX2.out.lt); have HB3 : Hid (Below w.heap.size w w3) := HB2.out.trans (hb.mono HB2.out.size); have ka3 := HX3.out.cell 0 0 (b := w.heap.size) rfl rfl rfl; have kb3 := HX3.out.cell 0 1 (b := w.heap.size) rfl rfl rfl; have kc3 := HX3.out.cell 1 0 (b := w.heap.size + 1) rfl rfl rfl; have kd3 := HX3.out.cell 1 1 (b := w.heap.size + 1) rfl rfl rfl; clear hv hb)
      | (go_at_call_of 65 (Value.slice pa ma ca); refine (plus_num HA3.out HC.out K1.out K2.out).mono ?_; rintro e w4 ⟨vs, rfl, hv, hb⟩; obtain ⟨ps, ms, cs, rfl⟩ := hv.form'; have HS := Lib.hid hv;  have HX4 := Lib.hid (HX3.out.below hb HX3.out.lt); have HB4 : Hid (Below w.heap.size w w4) := HB3.out.trans (hb.mono HB3.out.size); have ka4 := HX4.out.cell 0 0 (b := w.heap.size) rfl rfl rfl; have kb4 := HX4.out.cell 0 1 (b := w.heap.size) rfl rfl rfl; have kc4 := HX4.out.cell 1 0 (b := w.heap.size + 1) rfl rfl rfl; have kd4 := HX4.out.cell 1 1 (b := w.heap.size + 1) rfl rfl rfl; clear hv hb)
      | (go_at_call_of 64 (Value.slice p2 m2 c2); refine (times_num (H2.out.after HB4.out (Nat.le_refl _)) (H4.out.after HB4.out (Nat.le_refl _)) l2 l4).mono ?_; rintro e w5 ⟨vd, rfl, hv, hb⟩; obtain ⟨pd, md, cd, rfl⟩ := hv.form'; have HE := Lib.hid hv; have HS5 := Lib.hid (HS.out.after hb (Nat.le_refl _)); have HX5 := Lib.hid (HX4.out.below hb HX4.out.lt); have HB5 : Hid (Below w.heap.size w w5) := HB4.out.trans (hb.mono HB4.out.size); have ka5 := HX5.out.cell 0 0 (b := w.heap.size) rfl rfl rfl; have kb5 := HX5.out.cell 0 1 (b := w.heap.size) rfl rfl rfl; have kc5 := HX5.out.cell 1 0 (b := w.heap.size + 1) rfl rfl rfl; have kd5 := HX5.out.cell 1 1 (b := w.heap.size + 1) rfl rfl rfl; clear hv hb)
      | (go_at_call 66; refine (part_any HS5.out HE.out HL1.out HL2.out HD.out (HT.out.below HB5.out (Nat.le_refl _))).mono ?_; rintro e w9 ⟨x, y, n, rfl, hR, hb9⟩; have HR := Lib.hid hR; have HX9 := Lib.hid (HX5.out.below hb9 HX5.out.lt); have HB9 : Hid (Below w.heap.size w w9) := HB5.out.trans (hb9.mono HB5.out.size); have ka9 := HX9.out.cell 0 0 (b := w.heap.size) rfl rfl rfl; have kb9 := HX9.out.cell 0 1 (b := w.heap.size) rfl rfl rfl; have kc9 := HX9.out.cell 1 0 (b := w.heap.size + 1) rfl rfl rfl; have kd9 := HX9.out.cell 1 1 (b := w.heap.size + 1) rfl rfl rfl; have r0 := HX9.out.cell 2 0 (b := w.heap.size + 1 + 1) rfl rfl rfl; have r1 := HX9.out.cell 2 1 (b := w.heap.size + 1 + 1) rfl rfl rfl; have f0 := HX9.out.free 2 0 (b := w.heap.size + 1 + 1) rfl rfl; have f1 := HX9.out.free 2 1 (b := w.heap.size + 1 + 1) rfl rfl; clear hR hb9)
    )
  all_goals
    have q := two_put_cells (HX9.out.block 2 (b := w.heap.size + 1 + 1) rfl rfl) (.string x) (.string y)
    have HBQ := Lib.hid (two_put_below HB9.out (b := w.heap.size + 1 + 1) (by omega) (.string x) (.string y))
    obtain ⟨wz, hwz⟩ : ∃ wz, (w9.setCell ⟨w.heap.size + 1 + 1, 0, none⟩ (.string x)).setCell ⟨w.heap.size + 1 + 1, 1, none⟩ (.string y) = wz := ⟨_, rfl⟩
    rw [hwz] at q HBQ
    obtain ⟨q0, q1⟩ := q
    rw [hwz]
    clear r0 r1 f0 f1 hwz
    go_wp2
    refine bodyPost_ret (v := .tuple #[.agg #[.string x, .string y], .int .i64 n]) (by simp [results, Tryz.f63, go_sem, q0, q1]) rfl ⟨_, _, _, rfl, HR.out, HBQ.out⟩

theorem sub_lim {n m k : Nat} (h1 : (limbs 1000000000 n).length ≤ k) : (limbs 1000000000 (n - m)).length ≤ k := Nat.le_trans (limbs_length_mono (by omega) (Nat.sub_le _ _)) h1

/-- What Sub does with two fractions: the difference, or that there is none. -/
def SubR (n1 d1 n2 d2 : Nat) (s t : ByteArray) (e : Int) : Prop :=
  (n1 * d2 < n2 * d1 ∧ s = str [] ∧ t = str [] ∧ e = 11) ∨ (n2 * d1 ≤ n1 * d2 ∧ Ans (mkRat ((n1 * d2 - n2 * d1 : Nat) : Int) (d1 * d2)) s t e)

set_option maxRecDepth 100000 in
set_option maxHeartbeats 4000000 in
theorem sub1_any {v1 v2 v3 v4 : Value} {n1 d1 n2 d2 : Nat} {w : World} (h1 : Num w v1 n1) (h2 : Num w v2 d1) (h3 : Num w v3 n2) (h4 : Num w v4 d2)
    (l1 : (limbs 1000000000 n1).length ≤ 1000) (l2 : (limbs 1000000000 d1).length ≤ 1000) (l3 : (limbs 1000000000 n2).length ≤ 1000) (l4 : (limbs 1000000000 d2).length ≤ 1000) (hd1 : 0 < d1) (hd2 : 0 < d2) (hT : Tabs w) :
    Calls Tryz.prog 90 #[.agg #[v1, v2], .agg #[v3, v4]] w (PartPost (SubR n1 d1 n2 d2) w) := by
  obtain ⟨p1, m1, c1, rfl⟩ := h1.form'
  obtain ⟨p2, m2, c2, rfl⟩ := h2.form'
  obtain ⟨p3, m3, c3, rfl⟩ := h3.form'
  obtain ⟨p4, m4, c4, rfl⟩ := h4.form'
  have H1 := Lib.hid h1
  have H2 := Lib.hid h2
  have H3 := Lib.hid h3
  have H4 := Lib.hid h4
  have HT := Lib.hid hT
  clear h1 h2 h3 h4 hT
  have K1 : Hid ((limbs 1000000000 (n1 * d2)).length ≤ 100000) := mul_lim l1 l4
  have K2 : Hid ((limbs 1000000000 (n2 * d1)).length ≤ 100000) := mul_lim l3 l2
  have L1 : Hid ((limbs 1000000000 (n1 * d2)).length ≤ 1000000) := Nat.le_trans K1.out (by omega)
  have L2 : Hid ((limbs 1000000000 (n2 * d1)).length ≤ 1000000) := Nat.le_trans K2.out (by omega)
  have HL1 : Hid ((limbs 1000000000 (n1 * d2 - n2 * d1)).length ≤ 100000) := sub_lim K1.out
  have HL2 : Hid ((limbs 1000000000 (d1 * d2)).length ≤ 100000) := mul_lim l2 l4
  have HD : Hid (0 < d1 * d2) := Nat.mul_pos hd1 hd2
  rcases Nat.lt_or_ge (n1 * d2) (n2 * d1) with hlt | hge
  · have HLT := Lib.hid hlt
    clear hlt
    go_enter Tryz.func90, Tryz.ntmps90
    go_wp2_with fail
    obtain ⟨w1, hw1⟩ : ∃ w1, ((w.alloc (.cells #[.slice p1 m1 c1, .slice p2 m2 c2] 95)).alloc (.cells #[.slice p3 m3 c3, .slice p4 m4 c4] 95)).alloc (.cells #[.string ⟨#[]⟩, .string ⟨#[]⟩] 46) = w1 := ⟨_, rfl⟩
    rw [hw1]
    have HX1 : Hid (Boxes w.heap.size [.cells #[.slice p1 m1 c1, .slice p2 m2 c2] 95, .cells #[.slice p3 m3 c3, .slice p4 m4 c4] 95, .cells #[.string ⟨#[]⟩, .string ⟨#[]⟩] 46] w1) := by rw [← hw1]; exact Boxes.three w _ _ _
    have HB1 : Hid (Below w.heap.size w w1) := by rw [← hw1]; exact (((Below.refl _ w).alloc (Nat.le_refl _) _).alloc (by simp) _).alloc (by simp <;> omega) _
    clear hw1
    have ka1 := HX1.out.cell 0 0 (b := w.heap.size) rfl rfl rfl
    have kb1 := HX1.out.cell 0 1 (b := w.heap.size) rfl rfl rfl
    have kc1 := HX1.out.cell 1 0 (b := w.heap.size + 1) rfl rfl rfl
    have kd1 := HX1.out.cell 1 1 (b := w.heap.size + 1) rfl rfl rfl
    go_region_held3
      (fun w' => w'.cell? ⟨w.heap.size, 0, none⟩ = some (.slice p1 m1 c1) ∧ w'.cell? ⟨w.heap.size, 1, none⟩ = some (.slice p2 m2 c2) ∧ w'.cell? ⟨w.heap.size + 1, 0, none⟩ = some (.slice p3 m3 c3) ∧ w'.cell? ⟨w.heap.size + 1, 1, none⟩ = some (.slice p4 m4 c4))
      (first | exact ⟨ka1, kb1, kc1, kd1⟩ | exact ⟨ka2, kb2, kc2, kd2⟩ | exact ⟨ka3, kb3, kc3, kd3⟩ | exact ⟨ka4, kb4, kc4, kd4⟩ | exact ⟨ka5, kb5, kc5, kd5⟩ | exact ⟨ka6, kb6, kc6, kd6⟩ | exact ⟨(other_put _ _ _ (by omega) _).trans ka9, (other_put _ _ _ (by omega) _).trans kb9, (other_put _ _ _ (by omega) _).trans kc9, (other_put _ _ _ (by omega) _).trans kd9⟩ | exact ⟨ka9, kb9, kc9, kd9⟩)
      (first
        | (go_at_call_of 64 (Value.slice p1 m1 c1); refine (times_num (H1.out.after HB1.out.drew (Nat.le_refl _)) (H4.out.after HB1.out.drew (Nat.le_refl _)) l1 l4).mono ?_; rintro e w2 ⟨va, rfl, hv, hb⟩; obtain ⟨pa, ma, ca, rfl⟩ := hv.form'; have HA := Lib.hid hv;  have HX2 := Lib.hid (HX1.out.drew.below hb HX1.out.lt); have HB2 : Hid (Below w.heap.size w w2) := HB1.out.drew.trans (hb.mono HB1.out.drew.size); have ka2 := HX2.out.cell 0 0 (b := w.heap.size) rfl rfl rfl; have kb2 := HX2.out.cell 0 1 (b := w.heap.size) rfl rfl rfl; have kc2 := HX2.out.cell 1 0 (b := w.heap.size + 1) rfl rfl rfl; have kd2 := HX2.out.cell 1 1 (b := w.heap.size + 1) rfl rfl rfl; clear hv hb)
        | (go_at_call_of 64 (Value.slice p3 m3 c3); refine (times_num (H3.out.after HB2.out (Nat.le_refl _)) (H2.out.after HB2.out (Nat.le_refl _)) l3 l2).mono ?_; rintro e w3 ⟨vb, rfl, hv, hb⟩; obtain ⟨pb, mb, cb, rfl⟩ := hv.form'; have HC := Lib.hid hv; have HA3 := Lib.hid (HA.out.after hb (Nat.le_refl _)); have HX3 := Lib.hid (HX2.out.below hb HX2.out.lt); have HB3 : Hid (Below w.heap.size w w3) := HB2.out.trans (hb.mono HB2.out.size); have ka3 := HX3.out.cell 0 0 (b := w.heap.size) rfl rfl rfl; have kb3 := HX3.out.cell 0 1 (b := w.heap.size) rfl rfl rfl; have kc3 := HX3.out.cell 1 0 (b := w.heap.size + 1) rfl rfl rfl; have kd3 := HX3.out.cell 1 1 (b := w.heap.size + 1) rfl rfl rfl; clear hv hb)
      )
    go_wp2_with fail
    refine (compare_any HA3.out HC.out L1.out L2.out).mono ?_
    rintro e w4 ⟨r, rfl, hsg, hb4⟩
    have HX4 := Lib.hid (HX3.out.below hb4 HX3.out.lt)
    have HB4 := Lib.hid (HB3.out.trans (hb4.mono HB3.out.size))
    have HA4 := Lib.hid (HA3.out.after hb4 (Nat.le_refl _))
    have HC4 := Lib.hid (HC.out.after hb4 (Nat.le_refl _))
    have HSG := Lib.hid hsg
    clear hb4 hsg ka3 kb3 kc3 kd3
    have hr : r < 0 := HSG.out.1.2 HLT.out
    have r0 := HX4.out.cell 2 0 (b := w.heap.size + 1 + 1) rfl rfl rfl
    have r1 := HX4.out.cell 2 1 (b := w.heap.size + 1 + 1) rfl rfl rfl
    have f0 := HX4.out.free 2 0 (b := w.heap.size + 1 + 1) rfl rfl
    have f1 := HX4.out.free 2 1 (b := w.heap.size + 1 + 1) rfl rfl
    go_wp2
    have q := two_put_cells (HX4.out.block 2 (b := w.heap.size + 1 + 1) rfl rfl) (.string ⟨#[]⟩) (.string ⟨#[]⟩)
    have HBQ := Lib.hid (two_put_below HB4.out (b := w.heap.size + 1 + 1) (by omega) (.string ⟨#[]⟩) (.string ⟨#[]⟩))
    obtain ⟨w9, hw9⟩ : ∃ w9, (w4.setCell ⟨w.heap.size + 1 + 1, 0, none⟩ (.string ⟨#[]⟩)).setCell ⟨w.heap.size + 1 + 1, 1, none⟩ (.string ⟨#[]⟩) = w9 := ⟨_, rfl⟩
    rw [hw9] at q HBQ
    obtain ⟨q0, q1⟩ := q
    rw [hw9]
    clear r0 r1 f0 f1 hw9
    go_wp2
    refine bodyPost_ret (v := .tuple #[.agg #[.string ⟨#[]⟩, .string ⟨#[]⟩], .int .i64 11]) (by simp [results, Tryz.f90, go_sem, q0, q1]) rfl ⟨_, _, _, rfl, ?_, HBQ.out⟩
    exact .inl ⟨HLT.out, rfl, rfl, rfl⟩
  · have HLT := Lib.hid hge
    clear hge
    go_enter Tryz.func90, Tryz.ntmps90
    go_wp2_with fail
    obtain ⟨w1, hw1⟩ : ∃ w1, ((w.alloc (.cells #[.slice p1 m1 c1, .slice p2 m2 c2] 95)).alloc (.cells #[.slice p3 m3 c3, .slice p4 m4 c4] 95)).alloc (.cells #[.string ⟨#[]⟩, .string ⟨#[]⟩] 46) = w1 := ⟨_, rfl⟩
    rw [hw1]
    have HX1 : Hid (Boxes w.heap.size [.cells #[.slice p1 m1 c1, .slice p2 m2 c2] 95, .cells #[.slice p3 m3 c3, .slice p4 m4 c4] 95, .cells #[.string ⟨#[]⟩, .string ⟨#[]⟩] 46] w1) := by rw [← hw1]; exact Boxes.three w _ _ _
    have HB1 : Hid (Below w.heap.size w w1) := by rw [← hw1]; exact (((Below.refl _ w).alloc (Nat.le_refl _) _).alloc (by simp) _).alloc (by simp <;> omega) _
    clear hw1
    have ka1 := HX1.out.cell 0 0 (b := w.heap.size) rfl rfl rfl
    have kb1 := HX1.out.cell 0 1 (b := w.heap.size) rfl rfl rfl
    have kc1 := HX1.out.cell 1 0 (b := w.heap.size + 1) rfl rfl rfl
    have kd1 := HX1.out.cell 1 1 (b := w.heap.size + 1) rfl rfl rfl
    go_region_held3
      (fun w' => w'.cell? ⟨w.heap.size, 0, none⟩ = some (.slice p1 m1 c1) ∧ w'.cell? ⟨w.heap.size, 1, none⟩ = some (.slice p2 m2 c2) ∧ w'.cell? ⟨w.heap.size + 1, 0, none⟩ = some (.slice p3 m3 c3) ∧ w'.cell? ⟨w.heap.size + 1, 1, none⟩ = some (.slice p4 m4 c4))
      (first | exact ⟨ka1, kb1, kc1, kd1⟩ | exact ⟨ka2, kb2, kc2, kd2⟩ | exact ⟨ka3, kb3, kc3, kd3⟩ | exact ⟨ka4, kb4, kc4, kd4⟩ | exact ⟨ka5, kb5, kc5, kd5⟩ | exact ⟨ka6, kb6, kc6, kd6⟩ | exact ⟨(other_put _ _ _ (by omega) _).trans ka9, (other_put _ _ _ (by omega) _).trans kb9, (other_put _ _ _ (by omega) _).trans kc9, (other_put _ _ _ (by omega) _).trans kd9⟩ | exact ⟨ka9, kb9, kc9, kd9⟩)
      (first
        | (go_at_call_of 64 (Value.slice p1 m1 c1); refine (times_num (H1.out.after HB1.out.drew (Nat.le_refl _)) (H4.out.after HB1.out.drew (Nat.le_refl _)) l1 l4).mono ?_; rintro e w2 ⟨va, rfl, hv, hb⟩; obtain ⟨pa, ma, ca, rfl⟩ := hv.form'; have HA := Lib.hid hv;  have HX2 := Lib.hid (HX1.out.drew.below hb HX1.out.lt); have HB2 : Hid (Below w.heap.size w w2) := HB1.out.drew.trans (hb.mono HB1.out.drew.size); have ka2 := HX2.out.cell 0 0 (b := w.heap.size) rfl rfl rfl; have kb2 := HX2.out.cell 0 1 (b := w.heap.size) rfl rfl rfl; have kc2 := HX2.out.cell 1 0 (b := w.heap.size + 1) rfl rfl rfl; have kd2 := HX2.out.cell 1 1 (b := w.heap.size + 1) rfl rfl rfl; clear hv hb)
        | (go_at_call_of 64 (Value.slice p3 m3 c3); refine (times_num (H3.out.after HB2.out (Nat.le_refl _)) (H2.out.after HB2.out (Nat.le_refl _)) l3 l2).mono ?_; rintro e w3 ⟨vb, rfl, hv, hb⟩; obtain ⟨pb, mb, cb, rfl⟩ := hv.form'; have HC := Lib.hid hv; have HA3 := Lib.hid (HA.out.after hb (Nat.le_refl _)); have HX3 := Lib.hid (HX2.out.below hb HX2.out.lt); have HB3 : Hid (Below w.heap.size w w3) := HB2.out.trans (hb.mono HB2.out.size); have ka3 := HX3.out.cell 0 0 (b := w.heap.size) rfl rfl rfl; have kb3 := HX3.out.cell 0 1 (b := w.heap.size) rfl rfl rfl; have kc3 := HX3.out.cell 1 0 (b := w.heap.size + 1) rfl rfl rfl; have kd3 := HX3.out.cell 1 1 (b := w.heap.size + 1) rfl rfl rfl; clear hv hb)
      )
    go_wp2_with fail
    refine (compare_any HA3.out HC.out L1.out L2.out).mono ?_
    rintro e w4 ⟨r, rfl, hsg, hb4⟩
    have HX4 := Lib.hid (HX3.out.below hb4 HX3.out.lt)
    have HB4 := Lib.hid (HB3.out.trans (hb4.mono HB3.out.size))
    have HA4 := Lib.hid (HA3.out.after hb4 (Nat.le_refl _))
    have HC4 := Lib.hid (HC.out.after hb4 (Nat.le_refl _))
    have HSG := Lib.hid hsg
    clear hb4 hsg ka3 kb3 kc3 kd3
    have hr : ¬ r < 0 := fun h => by have h1 := HSG.out.1.1 h; have h2 := HLT.out; omega
    have ka1 := HX4.out.cell 0 0 (b := w.heap.size) rfl rfl rfl
    have kb1 := HX4.out.cell 0 1 (b := w.heap.size) rfl rfl rfl
    have kc1 := HX4.out.cell 1 0 (b := w.heap.size + 1) rfl rfl rfl
    have kd1 := HX4.out.cell 1 1 (b := w.heap.size + 1) rfl rfl rfl
    go_wp2_with fail
    go_region_held3
      (fun w' => w'.cell? ⟨w.heap.size, 0, none⟩ = some (.slice p1 m1 c1) ∧ w'.cell? ⟨w.heap.size, 1, none⟩ = some (.slice p2 m2 c2) ∧ w'.cell? ⟨w.heap.size + 1, 0, none⟩ = some (.slice p3 m3 c3) ∧ w'.cell? ⟨w.heap.size + 1, 1, none⟩ = some (.slice p4 m4 c4))
      (first | exact ⟨ka1, kb1, kc1, kd1⟩ | exact ⟨ka2, kb2, kc2, kd2⟩ | exact ⟨ka3, kb3, kc3, kd3⟩ | exact ⟨ka4, kb4, kc4, kd4⟩ | exact ⟨ka5, kb5, kc5, kd5⟩ | exact ⟨ka6, kb6, kc6, kd6⟩ | exact ⟨(other_put _ _ _ (by omega) _).trans ka9, (other_put _ _ _ (by omega) _).trans kb9, (other_put _ _ _ (by omega) _).trans kc9, (other_put _ _ _ (by omega) _).trans kd9⟩ | exact ⟨ka9, kb9, kc9, kd9⟩)
      (first
        | (go_at_call_of 91 (Value.slice pa ma ca); refine (minus_num (HA4.out.after (Below.refl w4.heap.size w4).drew (Nat.le_refl _)) (HC4.out.after (Below.refl w4.heap.size w4).drew (Nat.le_refl _)) HLT.out K1.out).mono ?_; rintro e w5 ⟨vs, rfl, hv, hb⟩; obtain ⟨ps, ms, cs, rfl⟩ := hv.form'; have HS := Lib.hid hv;  have HX5 := Lib.hid (HX4.out.drew.below hb HX4.out.lt); have HB5 : Hid (Below w.heap.size w w5) := HB4.out.drew.trans (hb.mono HB4.out.drew.size); have ka5 := HX5.out.cell 0 0 (b := w.heap.size) rfl rfl rfl; have kb5 := HX5.out.cell 0 1 (b := w.heap.size) rfl rfl rfl; have kc5 := HX5.out.cell 1 0 (b := w.heap.size + 1) rfl rfl rfl; have kd5 := HX5.out.cell 1 1 (b := w.heap.size + 1) rfl rfl rfl; clear hv hb)
        | (go_at_call_of 64 (Value.slice p2 m2 c2); refine (times_num (H2.out.after HB5.out (Nat.le_refl _)) (H4.out.after HB5.out (Nat.le_refl _)) l2 l4).mono ?_; rintro e w6 ⟨vd, rfl, hv, hb⟩; obtain ⟨pd, md, cd, rfl⟩ := hv.form'; have HE := Lib.hid hv; have HS6 := Lib.hid (HS.out.after hb (Nat.le_refl _)); have HX6 := Lib.hid (HX5.out.below hb HX5.out.lt); have HB6 : Hid (Below w.heap.size w w6) := HB5.out.trans (hb.mono HB5.out.size); have ka6 := HX6.out.cell 0 0 (b := w.heap.size) rfl rfl rfl; have kb6 := HX6.out.cell 0 1 (b := w.heap.size) rfl rfl rfl; have kc6 := HX6.out.cell 1 0 (b := w.heap.size + 1) rfl rfl rfl; have kd6 := HX6.out.cell 1 1 (b := w.heap.size + 1) rfl rfl rfl; clear hv hb)
        | (go_at_call 66; refine (part_any HS6.out HE.out HL1.out HL2.out HD.out (HT.out.below HB6.out (Nat.le_refl _))).mono ?_; rintro e w9 ⟨x, y, n, rfl, hR, hb9⟩; have HR := Lib.hid hR; have HX9 := Lib.hid (HX6.out.below hb9 HX6.out.lt); have HB9 : Hid (Below w.heap.size w w9) := HB6.out.trans (hb9.mono HB6.out.size); have ka9 := HX9.out.cell 0 0 (b := w.heap.size) rfl rfl rfl; have kb9 := HX9.out.cell 0 1 (b := w.heap.size) rfl rfl rfl; have kc9 := HX9.out.cell 1 0 (b := w.heap.size + 1) rfl rfl rfl; have kd9 := HX9.out.cell 1 1 (b := w.heap.size + 1) rfl rfl rfl; have r0 := HX9.out.cell 2 0 (b := w.heap.size + 1 + 1) rfl rfl rfl; have r1 := HX9.out.cell 2 1 (b := w.heap.size + 1 + 1) rfl rfl rfl; have f0 := HX9.out.free 2 0 (b := w.heap.size + 1 + 1) rfl rfl; have f1 := HX9.out.free 2 1 (b := w.heap.size + 1 + 1) rfl rfl; clear hR hb9)
      )
    all_goals
      have q := two_put_cells (HX9.out.block 2 (b := w.heap.size + 1 + 1) rfl rfl) (.string x) (.string y)
      have HBQ := Lib.hid (two_put_below HB9.out (b := w.heap.size + 1 + 1) (by omega) (.string x) (.string y))
      obtain ⟨wz, hwz⟩ : ∃ wz, (w9.setCell ⟨w.heap.size + 1 + 1, 0, none⟩ (.string x)).setCell ⟨w.heap.size + 1 + 1, 1, none⟩ (.string y) = wz := ⟨_, rfl⟩
      rw [hwz] at q HBQ
      obtain ⟨q0, q1⟩ := q
      rw [hwz]
      clear r0 r1 f0 f1 hwz
      go_wp2
      refine bodyPost_ret (v := .tuple #[.agg #[.string x, .string y], .int .i64 n]) (by simp [results, Tryz.f90, go_sem, q0, q1]) rfl ⟨_, _, _, rfl, .inr ⟨HLT.out, HR.out⟩, HBQ.out⟩
end Go.Proofs.YtcncdepjbhnknaaGreatDoor
