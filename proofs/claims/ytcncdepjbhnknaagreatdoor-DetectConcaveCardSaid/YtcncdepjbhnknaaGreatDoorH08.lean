/- The parts Part, Lim, Check, Clone, Minus, Does of a proof, put together by program (merge6.py). -/
import Derived.Test.YtcncdepjbhnknaaGreatDoorH07
import Derived.Test.YtcncdepjbhnknaaGreatDoorH01
import Derived.Test.YtcncdepjbhnknaaGreatDoorH02
import Derived.Deep.AppendLies
import Derived.Test.YtcncdepjbhnknaaGreatDoorH04
import Derived.Deep.RegionHeld3
import Derived.Deep.DrawnRows
set_option linter.unusedVariables false
set_option linter.unusedSimpArgs false
/- weight's part: a fraction in lowest terms, as digits. -/
namespace Go.Proofs.YtcncdepjbhnknaaGreatDoor
open Go.RowKit Go.Shelf

/-- What a fraction with an error answers. -/
def PartPost (R : ByteArray → ByteArray → Int → Prop) (w : World) (e : Ending) (w' : World) : Prop :=
  ∃ s t n, e = .returned (.tuple #[.agg #[.string s, .string t], .int .i64 n]) ∧ R s t n ∧ Below w.heap.size w w'

theorem Num.after {w w' : World} {v : Value} {n B : Nat} (h : Num w v n) (hb : Below B w w') (hB : w.heap.size ≤ B) : Num w' v n := Nums.below h hb hB


set_option maxRecDepth 100000 in
set_option maxHeartbeats 4000000 in
theorem part_any {v1 v2 : Value} {n d : Nat} {w : World} (h1 : Num w v1 n) (h2 : Num w v2 d) (hl1 : (limbs 1000000000 n).length ≤ 100000) (hl2 : (limbs 1000000000 d).length ≤ 100000) (hd : 0 < d) (hT : Tabs w) :
    Calls Tryz.prog 66 #[.agg #[v1, v2]] w (PartPost (Ans (mkRat (n : Nat) d)) w) := by
  obtain ⟨g, hg⟩ : ∃ g, Nat.gcd n d = g := ⟨_, rfl⟩
  have hg0 : 0 < g := by rw [← hg]; exact Nat.gcd_pos_of_pos_right _ hd
  have hgl : (limbs 1000000000 g).length ≤ 100000 := Nat.le_trans (limbs_length_mono (by omega) (by rw [← hg]; exact Nat.gcd_le_right _ hd)) hl2
  have HQ : Hid (numD (mkRat (n : Nat) d) = Lib.decDigits (n / g) ∧ denD (mkRat (n : Nat) d) = Lib.decDigits (d / g)) := by rw [← hg]; exact digits_mkRat n hd
  obtain ⟨p1, l1, c1, rfl⟩ := h1.form'
  obtain ⟨p2, l2, c2, rfl⟩ := h2.form'
  have H1 := Lib.hid h1
  have H2 := Lib.hid h2
  have HT := Lib.hid hT
  have HG0 := Lib.hid hg
  clear h1 h2 hT hg
  go_enter Tryz.func66, Tryz.ntmps66
  go_wp2_with fail
  obtain ⟨w1, hw1⟩ : ∃ w1, (w.alloc (.cells #[.slice p1 l1 c1, .slice p2 l2 c2] 95)).alloc (.cells #[.string ⟨#[]⟩, .string ⟨#[]⟩] 46) = w1 := ⟨_, rfl⟩
  rw [hw1]
  have HX1 : Hid (Boxes w.heap.size [.cells #[.slice p1 l1 c1, .slice p2 l2 c2] 95, .cells #[.string ⟨#[]⟩, .string ⟨#[]⟩] 46] w1) := by rw [← hw1]; exact Boxes.two w _ _
  have HB1 : Hid (Below w.heap.size w w1) := by rw [← hw1]; exact ((Below.refl _ w).alloc (Nat.le_refl _) _).alloc (by simp) _
  clear hw1
  refine (gcd_any (H1.out.after HB1.out (Nat.le_refl _)) (H2.out.after HB1.out (Nat.le_refl _)) hl1 hl2).mono ?_
  rintro e w2 ⟨vg, rfl, hG, hb2⟩
  obtain ⟨pg, lg, cg, rfl⟩ := hG.form'
  rw [HG0.out] at hG
  have HG := Lib.hid hG
  have HB2 := Lib.hid (HB1.out.trans (hb2.mono HB1.out.size))
  have HX2 := Lib.hid (HX1.out.below hb2 HX1.out.lt)
  clear hG hb2
  have c20 := HX2.out.cell 0 0 (b := w.heap.size) rfl rfl rfl
  have c21 := HX2.out.cell 0 1 (b := w.heap.size) rfl rfl rfl
  go_wp2_with fail
  refine (over_any (H1.out.after HB2.out (Nat.le_refl _)) HG.out hl1 hgl hg0).mono ?_
  rintro e w3 ⟨vn, vr, rfl, hN, _, hb3⟩
  obtain ⟨pn, ln, cn, rfl⟩ := hN.form'
  have HN3 := Lib.hid hN
  have HG3 := Lib.hid (HG.out.after hb3 (Nat.le_refl _))
  have HB3 := Lib.hid (HB2.out.trans (hb3.mono HB2.out.size))
  have HX3 := Lib.hid (HX2.out.below hb3 HX2.out.lt)
  clear hN hb3 c20 c21
  have c31 := HX3.out.cell 0 1 (b := w.heap.size) rfl rfl rfl
  go_wp2_with fail
  refine (over_any (H2.out.after HB3.out (Nat.le_refl _)) HG3.out hl2 hgl hg0).mono ?_
  rintro e w4 ⟨vd, vs, rfl, hD, _, hb4⟩
  obtain ⟨pd, ld, cd, rfl⟩ := hD.form'
  have HD4 := Lib.hid hD
  have HN4 := Lib.hid (HN3.out.after hb4 (Nat.le_refl _))
  have HB4 := Lib.hid (HB3.out.trans (hb4.mono HB3.out.size))
  have HX4 := Lib.hid (HX3.out.below hb4 HX3.out.lt)
  clear hD hb4 c31
  have hln : (limbs 1000000000 (n / g)).length ≤ 100000 := Nat.le_trans (limbs_length_mono (by omega) (Nat.div_le_self _ _)) hl1
  have hld : (limbs 1000000000 (d / g)).length ≤ 100000 := Nat.le_trans (limbs_length_mono (by omega) (Nat.div_le_self _ _)) hl2
  go_wp2_with fail
  refine (digits_any HN4.out hln (HT.out.below HB4.out (Nat.le_refl _))).mono ?_
  rintro e w5 ⟨rfl, hb5⟩
  have HD5 := Lib.hid (HD4.out.after hb5 (Nat.le_refl _))
  have HN5 := Lib.hid (HN4.out.after hb5 (Nat.le_refl _))
  have HB5 := Lib.hid (HB4.out.trans (hb5.mono HB4.out.size))
  have HX5 := Lib.hid (HX4.out.below hb5 HX4.out.lt)
  clear hb5
  obtain ⟨m1, hm1⟩ : ∃ m, (Lib.decDigits (n / g)).length = m := ⟨_, rfl⟩
  obtain ⟨m2, hm2⟩ : ∃ m, (Lib.decDigits (d / g)).length = m := ⟨_, rfl⟩
  rw [hm1]
  have HM1 := Lib.hid hm1
  have HM2 := Lib.hid hm2
  clear hm1 hm2
  by_cases hc1 : 600 < m1
  · have e1 : (600 : Int) < (m1 : Nat) := by omega
    have r0 := HX5.out.cell 1 0 (b := w.heap.size + 1) rfl rfl rfl
    have r1 := HX5.out.cell 1 1 (b := w.heap.size + 1) rfl rfl rfl
    have f0 := HX5.out.free 1 0 (b := w.heap.size + 1) rfl rfl
    have f1 := HX5.out.free 1 1 (b := w.heap.size + 1) rfl rfl
    go_wp2
    have q := two_put_cells (HX5.out.block 1 (b := w.heap.size + 1) rfl rfl) (.string ⟨#[]⟩) (.string ⟨#[]⟩)
    have HBQ := Lib.hid (two_put_below HB5.out (b := w.heap.size + 1) (by omega) (.string ⟨#[]⟩) (.string ⟨#[]⟩))
    obtain ⟨w9, hw9⟩ : ∃ w9, (w5.setCell ⟨w.heap.size + 1, 0, none⟩ (.string ⟨#[]⟩)).setCell ⟨w.heap.size + 1, 1, none⟩ (.string ⟨#[]⟩) = w9 := ⟨_, rfl⟩
    rw [hw9] at q HBQ
    obtain ⟨q0, q1⟩ := q
    rw [hw9]
    clear r0 r1 f0 f1 hw9
    go_wp2
    refine bodyPost_ret (v := .tuple #[.agg #[.string ⟨#[]⟩, .string ⟨#[]⟩], .int .i64 4]) (by simp [results, Tryz.f66, go_sem, q0, q1]) rfl ⟨_, _, _, rfl, ?_, HBQ.out⟩
    exact .inr ⟨fun hf => by have := hf.1; rw [HQ.out.1, HM1.out] at this; omega, rfl, rfl, rfl⟩
  · have e1 : ¬ (600 : Int) < (m1 : Nat) := by omega
    go_wp2_with fail
    refine (digits_any HD5.out hld (HT.out.below HB5.out (Nat.le_refl _))).mono ?_
    rintro e w6 ⟨rfl, hb6⟩
    have HD6 := Lib.hid (HD5.out.after hb6 (Nat.le_refl _))
    have HN6 := Lib.hid (HN5.out.after hb6 (Nat.le_refl _))
    have HB6 := Lib.hid (HB5.out.trans (hb6.mono HB5.out.size))
    have HX6 := Lib.hid (HX5.out.below hb6 HX5.out.lt)
    clear hb6
    rw [HM2.out]
    by_cases hc2 : 600 < m2
    · have e2 : (600 : Int) < (m2 : Nat) := by omega
      have r0 := HX6.out.cell 1 0 (b := w.heap.size + 1) rfl rfl rfl
      have r1 := HX6.out.cell 1 1 (b := w.heap.size + 1) rfl rfl rfl
      have f0 := HX6.out.free 1 0 (b := w.heap.size + 1) rfl rfl
      have f1 := HX6.out.free 1 1 (b := w.heap.size + 1) rfl rfl
      go_wp2
      have q := two_put_cells (HX6.out.block 1 (b := w.heap.size + 1) rfl rfl) (.string ⟨#[]⟩) (.string ⟨#[]⟩)
      have HBQ := Lib.hid (two_put_below HB6.out (b := w.heap.size + 1) (by omega) (.string ⟨#[]⟩) (.string ⟨#[]⟩))
      obtain ⟨w9, hw9⟩ : ∃ w9, (w6.setCell ⟨w.heap.size + 1, 0, none⟩ (.string ⟨#[]⟩)).setCell ⟨w.heap.size + 1, 1, none⟩ (.string ⟨#[]⟩) = w9 := ⟨_, rfl⟩
      rw [hw9] at q HBQ
      obtain ⟨q0, q1⟩ := q
      rw [hw9]
      clear r0 r1 f0 f1 hw9
      go_wp2
      refine bodyPost_ret (v := .tuple #[.agg #[.string ⟨#[]⟩, .string ⟨#[]⟩], .int .i64 4]) (by simp [results, Tryz.f66, go_sem, q0, q1]) rfl ⟨_, _, _, rfl, ?_, HBQ.out⟩
      exact .inr ⟨fun hf => by have := hf.2; rw [HQ.out.2, HM2.out] at this; omega, rfl, rfl, rfl⟩
    · have e2 : ¬ (600 : Int) < (m2 : Nat) := by omega
      go_wp2_with fail
      refine (text_any HN6.out hln (HT.out.below HB6.out (Nat.le_refl _))).mono ?_
      rintro e w7 ⟨s, rfl, hs, hb7⟩
      have HS := Lib.hid hs
      have HD7 := Lib.hid (HD6.out.after hb7 (Nat.le_refl _))
      have HB7 := Lib.hid (HB6.out.trans (hb7.mono HB6.out.size))
      have HX7 := Lib.hid (HX6.out.below hb7 HX6.out.lt)
      clear hb7 hs
      go_wp2_with fail
      refine (text_any HD7.out hld (HT.out.below HB7.out (Nat.le_refl _))).mono ?_
      rintro e w8 ⟨t, rfl, ht, hb8⟩
      have HT8 := Lib.hid ht
      have HB8 := Lib.hid (HB7.out.trans (hb8.mono HB7.out.size))
      have HX8 := Lib.hid (HX7.out.below hb8 HX7.out.lt)
      clear hb8 ht
      have r0 := HX8.out.cell 1 0 (b := w.heap.size + 1) rfl rfl rfl
      have r1 := HX8.out.cell 1 1 (b := w.heap.size + 1) rfl rfl rfl
      have f0 := HX8.out.free 1 0 (b := w.heap.size + 1) rfl rfl
      have f1 := HX8.out.free 1 1 (b := w.heap.size + 1) rfl rfl
      go_wp2
      have q := two_put_cells (HX8.out.block 1 (b := w.heap.size + 1) rfl rfl) (.string s) (.string t)
      have HBQ := Lib.hid (two_put_below HB8.out (b := w.heap.size + 1) (by omega) (.string s) (.string t))
      obtain ⟨w9, hw9⟩ : ∃ w9, (w8.setCell ⟨w.heap.size + 1, 0, none⟩ (.string s)).setCell ⟨w.heap.size + 1, 1, none⟩ (.string t) = w9 := ⟨_, rfl⟩
      rw [hw9] at q HBQ
      obtain ⟨q0, q1⟩ := q
      rw [hw9]
      clear r0 r1 f0 f1 hw9
      go_wp2
      refine bodyPost_ret (v := .tuple #[.agg #[.string s, .string t], .int .i64 0]) (by simp [results, Tryz.f66, go_sem, q0, q1]) rfl ⟨_, _, _, rfl, ?_, HBQ.out⟩
      refine .inl ⟨⟨mkRat_nonneg _ _, ?_, ?_, ?_⟩, rfl⟩
      · rw [HS.out, HQ.out.1]
      · rw [HT8.out, HQ.out.2]
      · unfold Fits
        rw [HQ.out.1, HQ.out.2, HM1.out, HM2.out]
        omega
end Go.Proofs.YtcncdepjbhnknaaGreatDoor
/- How many limbs a number of so many digits has. No program is in sight. -/
namespace Go.Proofs.YtcncdepjbhnknaaGreatDoor

theorem lim_of_pow {n k j : Nat} (h : n < 10 ^ k) (hj : k ≤ 9 * j) : (limbs 1000000000 n).length ≤ j := by
  refine limbs_length_le (by omega) (Nat.lt_of_lt_of_le h ?_)
  have e : (1000000000 : Nat) ^ j = 10 ^ (9 * j) := by rw [Nat.pow_mul]
  rw [e]
  exact Nat.pow_le_pow_right (by omega) hj
theorem decVal_lim {s : ByteArray} (hd : ∀ c ∈ s.data.toList, isDig c = true) {j : Nat} (hj : s.size ≤ 9 * j) : (limbs 1000000000 (decVal s.data.toList)).length ≤ j :=
  lim_of_pow (decVal_lt hd) (by rw [size_len]; exact hj)
end Go.Proofs.YtcncdepjbhnknaaGreatDoor
/- weight's Check: whether a fraction is valid. -/
namespace Go.Proofs.YtcncdepjbhnknaaGreatDoor
open Go.RowKit Go.Shelf

theorem okP_left {s t : ByteArray} (h : natOk s.data.toList = false) : okP s t = false := by unfold okP; rw [h]; rfl
theorem okP_right {s t : ByteArray} (h : natOk t.data.toList = false) : okP s t = false := by unfold okP; rw [h, Bool.and_false]; rfl
theorem okP_zero {s t : ByteArray} (h : decVal t.data.toList = 0) : okP s t = false := by unfold okP; rw [h]; simp
theorem okP_gcd {s t : ByteArray} (h : Nat.gcd (decVal s.data.toList) (decVal t.data.toList) ≠ 1) : okP s t = false := by unfold okP; simp [h]
theorem okP_yes {s t : ByteArray} (h1 : natOk s.data.toList = true) (h2 : natOk t.data.toList = true) (h3 : decVal t.data.toList ≠ 0) (h4 : Nat.gcd (decVal s.data.toList) (decVal t.data.toList) = 1) : okP s t = true :=
  okP_iff.2 ⟨h1, h2, by omega, h4⟩

/-- Check's answer. -/
def okE (s t : ByteArray) : Int := if okP s t then 0 else 2
theorem okE_no {s t : ByteArray} (h : okP s t = false) : okE s t = 2 := by unfold okE; rw [h]; rfl
theorem okE_yes {s t : ByteArray} (h : okP s t = true) : okE s t = 0 := by unfold okE; rw [h]; rfl

/-- "0" is the one valid number of value 0. -/
theorem zero_iff {t : ByteArray} (h : natOk t.data.toList = true) : t = ⟨#[48]⟩ ↔ decVal t.data.toList = 0 := by
  constructor
  · rintro rfl; rfl
  · intro h0
    have h1 := (canon_of_nat h).1.text
    rw [h0, decDigits_zero] at h1
    have h2 := str_eq t
    rw [← h1] at h2
    exact h2.symm

set_option maxRecDepth 100000 in
set_option maxHeartbeats 2000000 in
theorem check_any (s t : ByteArray) (w : World) (hs : s.size ≤ 1000000) (ht : t.size ≤ 1000000) :
    Calls Tryz.prog 26 #[.agg #[.string s, .string t]] w (IntPost w (okE s t)) := by
  cases h1 : natOk s.data.toList
  · have HQ := Lib.hid (okP_left (t := t) h1)
    have H1 := Lib.hid h1
    clear h1
    go_enter Tryz.func26, Tryz.ntmps26
    go_wp2_with fail
    refine (right_any s _ hs).mono ?_
    rintro e w2 ⟨rfl, hb2⟩
    rw [H1.out]
    have HB2 := Lib.hid (((Below.refl _ w).alloc (Nat.le_refl _) (.cells #[.string s, .string t] 46)).trans (hb2.mono (by simp)))
    clear hb2
    go_wp2
    go_ret
    exact ⟨by rw [okE_no HQ.out]; rfl, HB2.out⟩
  · have H1 := Lib.hid h1
    clear h1
    cases h2 : natOk t.data.toList
    · have HQ := Lib.hid (okP_right (s := s) h2)
      have H2 := Lib.hid h2
      clear h2
      go_enter Tryz.func26, Tryz.ntmps26
      go_wp2_with fail
      refine (right_any s _ hs).mono ?_
      rintro e w2 ⟨rfl, hb2⟩
      rw [H1.out]
      have HX2 := Lib.hid ((Boxes.one w _).below hb2 (by simp))
      have HB2 := Lib.hid (((Below.refl _ w).alloc (Nat.le_refl _) (.cells #[.string s, .string t] 46)).trans (hb2.mono (by simp)))
      clear hb2
      have c1 := HX2.out.cell 0 1 (b := w.heap.size) rfl rfl rfl
      go_wp2_with fail
      refine (right_any t _ ht).mono ?_
      rintro e w3 ⟨rfl, hb3⟩
      rw [H2.out]
      have HB3 := Lib.hid (HB2.out.trans (hb3.mono HB2.out.size))
      clear hb3 c1
      go_wp2
      go_ret
      exact ⟨by rw [okE_no HQ.out]; rfl, HB3.out⟩
    · have HZ := Lib.hid (zero_iff h2)
      have H2 := Lib.hid h2
      clear h2
      go_enter Tryz.func26, Tryz.ntmps26
      go_wp2_with fail
      refine (right_any s _ hs).mono ?_
      rintro e w2 ⟨rfl, hb2⟩
      rw [H1.out]
      have HX2 := Lib.hid ((Boxes.one w _).below hb2 (by simp))
      have HB2 := Lib.hid (((Below.refl _ w).alloc (Nat.le_refl _) (.cells #[.string s, .string t] 46)).trans (hb2.mono (by simp)))
      clear hb2
      have c1 := HX2.out.cell 0 1 (b := w.heap.size) rfl rfl rfl
      go_wp2_with fail
      refine (right_any t _ ht).mono ?_
      rintro e w3 ⟨rfl, hb3⟩
      rw [H2.out]
      have HX3 := Lib.hid (HX2.out.below hb3 HX2.out.lt)
      have HB3 := Lib.hid (HB2.out.trans (hb3.mono HB2.out.size))
      clear hb3 c1
      have d0 := HX3.out.cell 0 0 (b := w.heap.size) rfl rfl rfl
      have d1 := HX3.out.cell 0 1 (b := w.heap.size) rfl rfl rfl
      have dl : t.toList = t.data.toList := ByteArray.toList_eq ..
      by_cases h0 : decVal t.data.toList = 0
      · have hz : (t.toList == [48]) = true := by
          rw [dl, HZ.out.2 h0]; rfl
        have HQ := Lib.hid (okP_zero (s := s) h0)
        clear h0 dl
        go_wp2
        go_ret
        exact ⟨by rw [okE_no HQ.out]; rfl, HB3.out⟩
      · have hz : (t.toList == [48]) = false := by
          rw [beq_eq_false_iff_ne, dl]
          intro hc
          refine h0 (HZ.out.1 ?_)
          rw [← str_eq t, hc]; rfl
        have H0 := Lib.hid h0
        clear h0 dl
        obtain ⟨cs1, cs2⟩ := canon_of_nat H1.out
        obtain ⟨ct1, ct2⟩ := canon_of_nat H2.out
        have hls := decVal_lim cs1.dig (j := 70) (by rw [← size_len]; omega)
        have hlt := decVal_lim ct1.dig (j := 70) (by rw [← size_len]; omega)
        have HDS := Lib.hid cs1.dig
        have HDT := Lib.hid ct1.dig
        clear cs1 cs2 ct1 ct2
        go_wp2_with fail
        refine (taken_any s t hs ht HDS.out HDT.out _).mono ?_
        rintro e w4 ⟨vn, vd, rfl, hN, hD, hb4⟩
        obtain ⟨pn, ln, cn, rfl⟩ := hN.form'
        obtain ⟨pd, ld, cd, rfl⟩ := hD.form'
        have HN := Lib.hid hN
        have HD := Lib.hid hD
        have HB4 := Lib.hid (HB3.out.trans (hb4.mono HB3.out.size))
        clear hN hD hb4 d0 d1
        go_wp2_with fail
        obtain ⟨g, hg⟩ : ∃ g, Nat.gcd (decVal s.data.toList) (decVal t.data.toList) = g := ⟨_, rfl⟩
        have hal := (Below.refl w4.heap.size w4).alloc (Nat.le_refl _) (.cells #[.slice pn ln cn, .slice pd ld cd] 95)
        have hgc := gcd_any (HN.out.after hal (Nat.le_refl _)) (HD.out.after hal (Nat.le_refl _)) (by omega) (by omega)
        rw [hg] at hgc
        have HG := Lib.hid hg
        refine hgc.mono ?_
        rintro e w5 ⟨vg, rfl, hG, hb5⟩
        obtain ⟨pg, cg, hv, _, _, hp⟩ := id hG
        have HB5 := Lib.hid (HB4.out.trans ((hal.trans (hb5.mono (by simp))).mono HB4.out.size))
        obtain ⟨lg, hlg⟩ : ∃ l, (limbs 1000000000 g).length = l := ⟨_, rfl⟩
        rw [hlg] at hv
        subst hv
        have HP := Lib.hid hp
        have HLG := Lib.hid hlg
        clear hgc hG hb5 hal hp hlg hg
        by_cases h1 : lg = 1
        · have hb1 : ((lg : Int) != 1) = false := by rw [bne_eq_false_iff_eq]; omega
          have hx : ∃ b off x, pg = some ⟨b, off, none⟩ ∧ w5.cell? ⟨b, off, none⟩ = some (.int .u64 (x : Nat)) ∧ limbs 1000000000 g = [x] := by
            have h2 := HLG.out
            rw [h1] at h2
            obtain ⟨x, hx⟩ := List.length_eq_one_iff.1 h2
            obtain ⟨b, off, rfl, _, ha⟩ := HP.out (by rw [hx]; simp)
            have h3 := ha.getD (j := 0) (x := x) (by rw [hx]; simp) (by rw [hx]; rfl)
            exact ⟨b, off, x, rfl, h3, hx⟩
          obtain ⟨b, off, x, rfl, hc, hx⟩ := hx
          have HXL := Lib.hid hx
          have HV : Hid (x = g) := by
            show _ = _
            have := val_limbs (B := 1000000000) (by omega) g
            rw [hx] at this
            simpa [val] using this
          subst h1
          clear hx
          by_cases h2 : x = 1
          · have hb2 : ((x : Int) != 1) = false := by rw [bne_eq_false_iff_eq]; omega
            have HQ : Hid (okE s t = 0) := okE_yes (okP_yes H1.out H2.out H0.out (by rw [HG.out, ← HV.out]; exact h2))
            clear h2
            go_wp2
            go_ret
            exact ⟨by rw [HQ.out]; rfl, HB5.out⟩
          · have hb2 : ((x : Int) != 1) = true := by rw [bne_iff_ne]; omega
            have HQ : Hid (okE s t = 2) := okE_no (okP_gcd (by rw [HG.out, ← HV.out]; exact h2))
            clear h2
            go_wp2
            go_ret
            exact ⟨by rw [HQ.out]; rfl, HB5.out⟩
        · have hb1 : ((lg : Int) != 1) = true := by rw [bne_iff_ne]; omega
          have HQ : Hid (okE s t = 2) := by
            refine okE_no (okP_gcd ?_)
            rw [HG.out]
            intro hc
            refine h1 ?_
            rw [← HLG.out, hc, limbs_pos (by omega) (by omega), limbs_zero]; rfl
          clear h1
          go_wp2
          go_ret
          exact ⟨by rw [HQ.out]; rfl, HB5.out⟩
end Go.Proofs.YtcncdepjbhnknaaGreatDoor
/- slices.Clone of a number: the same limbs in memory of the call's own. -/
namespace Go.Proofs.YtcncdepjbhnknaaGreatDoor
open Go.RowKit

theorem cells_at {k : IntKind} {w : World} {b off : Nat} {xs : List Nat} (h : At k w b off xs) : ∀ j u, (xs.map fun x : Nat => Value.int k (x : Nat))[j]? = some u → w.cell? ((⟨b, off, none⟩ : Addr).add j) = some u := by
  intro j u hu
  have hj : j < xs.length := by
    have := (List.getElem?_eq_some_iff.1 hu).1
    simpa using this
  rw [Addr.add_lit, h j hj, ← hu]
  simp [hj]
theorem oneCell_ints (k : IntKind) (xs : List Nat) : ∀ u ∈ xs.map (fun x : Nat => Value.int k (x : Nat)), u.oneCell' = true := by
  intro u hu
  obtain ⟨x, _, rfl⟩ := List.mem_map.1 hu
  rfl

set_option maxHeartbeats 1000000 in
theorem clone_some (b off cap : Nat) (xs : List Nat) (w : World) (hne : 0 < xs.length) (hl : xs.length ≤ 1000000) (hb : b < w.heap.size) (hc : At .u64 w b off xs) :
    Calls Tryz.prog 124 #[.slice (some ⟨b, off, none⟩) xs.length cap] w fun e w' =>
      ∃ g cap', e = .returned (.slice (some ⟨g, 0, none⟩) xs.length cap') ∧ Row .u64 98 w' w.heap.size g cap' xs ∧ Below w.heap.size w w' := by
  obtain ⟨i0, hi, hz0, hz1, hz2⟩ := info_parts info_u64
  have heq := fun (w : World) => Lib.run_eql_slice_nil (P := Tryz.prog) w 93 98 (some ⟨b, off, none⟩) xs.length cap 0 0 Tryz.underlying93
  have HC := Lib.hid hc
  clear hc
  go_enter Tryz.func124, Tryz.ntmps124
  go_wp2_with (at_builtin; refine wpList_append_lies _ rfl (.tmp 5) (.tmp 6) 93 rfl w.heap.size 98 i0 (.int .u64 0) 1 8 Tryz.underlying93 hi hz0 hz1 hz2 rfl (by decide) _ 0 [] rfl (World.ownsRow_lit w #[] 0 (Nat.le_refl _) (by simp [maxLen]) rfl) ⟨b, off, none⟩ xs.length cap _ rfl (by simp) (cells_at (HC.out.below ((Below.refl w.heap.size w).alloc (Nat.le_refl _) _) hb)) (oneCell_ints _ _) hne (by unfold maxLen; omega) (by omega) (by simp) (w.heap.size + 1) (by simp) ?_; intro g cap' w1 hown1 hgrow1 hat1 hlt1)
  have h0 : 0 + xs.length = xs.length := by omega
  rw [h0] at hown1
  have HR := Lib.hid hown1
  have HB := Lib.hid (((Below.refl w.heap.size w).alloc (Nat.le_refl _) (.cells #[] 98)).grown hgrow1 (by simp) (fun k h => by cases h; exact Nat.le_refl _))
  clear hown1 hgrow1 hat1
  go_wp2
  go_ret
  exact ⟨g, cap', rfl, by have := HR.out; simpa [Row] using this, HB.out⟩

set_option maxHeartbeats 1000000 in
theorem clone_empty (p : Option Addr) (cap : Nat) (w : World) :
    Calls Tryz.prog 124 #[.slice p 0 cap] w fun e w' =>
      ∃ q, e = .returned (.slice q 0 0) ∧ Below w.heap.size w w' := by
  obtain ⟨i0, hi, hz0, hz1, hz2⟩ := info_parts info_u64
  rcases p with _ | ad
  · have heq := fun (w : World) => Lib.run_eql_slice_nil (P := Tryz.prog) w 93 98 none 0 cap 0 0 Tryz.underlying93
    go_enter Tryz.func124, Tryz.ntmps124
    go_wp2
    go_ret
    exact ⟨_, rfl, Below.refl _ _⟩
  · have heq := fun (w : World) => Lib.run_eql_slice_nil (P := Tryz.prog) w 93 98 (some ad) 0 cap 0 0 Tryz.underlying93
    go_enter Tryz.func124, Tryz.ntmps124
    go_wp2_with (at_builtin; refine wpList_append_fits _ rfl (.tmp 5) (.tmp 6) 93 rfl w.heap.size 98 i0 1 Tryz.underlying93 hi hz1 w.heap.size 0 0 [] rfl (World.ownsRow_lit w #[] 0 (Nat.le_refl _) (by simp [maxLen]) rfl) ad 0 cap [] rfl (by simp) (by simp) (by simp) (by omega) ?_; intro w1 hown1 hgrow1)
    have HB := Lib.hid (((Below.refl w.heap.size w).alloc (Nat.le_refl _) (.cells #[] 98)).grown hgrow1 (by simp) (fun k h => by cases h; exact Nat.le_refl _))
    clear hown1 hgrow1
    go_wp2
    go_ret
    exact ⟨_, rfl, HB.out⟩
end Go.Proofs.YtcncdepjbhnknaaGreatDoor
/- weight's number.minus: the difference to a number that is not greater. -/
namespace Go.Proofs.YtcncdepjbhnknaaGreatDoor
open Go.RowKit

set_option maxRecDepth 100000 in
set_option maxHeartbeats 4000000 in
theorem minus_any {v1 v2 : Value} {n m : Nat} {w : World} (h1 : Num w v1 n) (h2 : Num w v2 m) (hmn : m ≤ n) (hl1 : (limbs 1000000000 n).length ≤ 1000000) :
    Calls Tryz.prog 91 #[v1, v2] w fun e w' => ∃ v, e = .returned v ∧ Num w' v (n - m) ∧ Below w.heap.size w w' := by
  have hlm := limbs_length_mono (B := 1000000000) (by omega) hmn
  obtain ⟨p1, c1, rfl, hc1, hc1m, hp1⟩ := h1
  obtain ⟨p2, c2, rfl, _, _, hp2⟩ := h2
  obtain ⟨xs, hxs⟩ : ∃ xs, limbs 1000000000 n = xs := ⟨_, rfl⟩
  obtain ⟨ys, hys⟩ : ∃ ys, limbs 1000000000 m = ys := ⟨_, rfl⟩
  rw [hxs] at hl1 hp1 hc1 hlm ⊢
  rw [hys] at hp2 hlm ⊢
  have HX : Hid (∀ x ∈ xs, x < 1000000000) := by rw [← hxs]; exact limbs_lt (by omega) n
  have HY : Hid (∀ x ∈ ys, x < 1000000000) := by rw [← hys]; exact limbs_lt (by omega) m
  have HV : Hid (val 1000000000 xs = n ∧ val 1000000000 ys = m) := by rw [← hxs, ← hys]; exact ⟨val_limbs (by omega) n, val_limbs (by omega) m⟩
  have HP2 := Lib.hid hp2
  clear hxs hys hp2
  rcases Nat.eq_zero_or_pos xs.length with h0 | h0
  · have hn : n = 0 := by rw [← HV.out.1, List.eq_nil_of_length_eq_zero h0]; rfl
    have hy0 : ys.length = 0 := by omega
    rw [h0] at hc1 ⊢
    go_enter Tryz.func91, Tryz.ntmps91
    go_wp2_with fail
    refine (clone_empty p1 c1 w).mono ?_
    rintro e w0 ⟨q, rfl, HB0⟩
    have HB0 := Lib.hid HB0
    go_wp2_with fail
    go_loopw [6, 13] (fun bb i wr => i = .int .i64 0 ∧ Hid (Below w.heap.size w wr)) (fun _ i _ => (intOf i).toNat)
    case atStart => exact ⟨rfl, HB0⟩
    case round =>
      obtain ⟨rfl, HB⟩ := hrel
      go_wp2_with fail
      refine (trim_calls q 0 [] _ (by simp) (by simp [maxLen]) (by simp) (by simp)).mono ?_
      rintro e w' ⟨rfl, rfl⟩
      go_wp2
      go_ret
      refine ⟨_, rfl, ?_, HB.out⟩
      subst hn
      have e0 : limbs 1000000000 (0 - m) = [] := by rw [Nat.zero_sub, limbs_zero]
      unfold Num
      rw [e0]
      exact ⟨q, 0, by simp [val, limbs_zero], by simp, by simp [maxLen], by simp⟩
  · obtain ⟨b1, off1, rfl, hb1, ha1⟩ := hp1 (List.ne_nil_of_length_pos h0)
    go_enter Tryz.func91, Tryz.ntmps91
    go_wp2_with fail
    refine (clone_some b1 off1 c1 xs w h0 hl1 hb1 ha1).mono ?_
    rintro e w0 ⟨g, cap, rfl, HR0, HB0⟩
    have HG : Hid (w.heap.size ≤ g) := HR0.lt.1
    have HR0 := Lib.hid HR0
    have HB0 := Lib.hid HB0
    go_wp2
    go_loopw [6, 13] (fun bb i wr => ∃ (k : Nat) (os : List Nat) (b : Nat), k ≤ xs.length ∧ i = .int .i64 k ∧ bb = .int .u64 b ∧
        Hid (MinusInv 1000000000 xs ys k os b) ∧ Hid (Row .u64 98 wr w.heap.size g cap (([] : List Nat) ++ (os ++ xs.drop k) ++ [])) ∧ Hid (Below w.heap.size w wr)) (fun _ i _ => xs.length - (intOf i).toNat)
    case atStart => exact ⟨0, [], 0, Nat.zero_le _, rfl, rfl, MinusInv.start _ _ _, by simpa using HR0, HB0⟩
    case round =>
      obtain ⟨k, os, bw, hk, rfl, rfl, HI, HR, HB⟩ := hrel
      have hbw := HI.out.borrow
      by_cases hlt : k < xs.length
      · obtain ⟨p, hp⟩ : ∃ p, xs.getD k 0 = p := ⟨_, rfl⟩
        have hpl : p < 1000000000 := by rw [← hp]; exact getD_lt (by omega) HX.out k
        have hd : xs.drop k = p :: xs.drop (k + 1) := by rw [List.drop_eq_getElem_cons hlt]; subst hp; simp [List.getD, hlt]
        have HR1 : Hid (Row .u64 98 wr w.heap.size g cap (([] : List Nat) ++ (os ++ p :: xs.drop (k + 1)) ++ [])) := by have := HR.out; rw [hd] at this; exact this
        have hidx : k = ([] : List Nat).length + os.length := by rw [HI.out.len]; simp
        have cp : wr.cell? ⟨g, k, none⟩ = some (.int .u64 (p : Nat)) := HR1.out.cell (by rw [hidx]; exact len_mid _ _ _ _ _) (getD_mid _ _ _ _ _ _ hidx)
        have fp : wr.frozen? ⟨g, k, none⟩ = false := HR1.out.frozen _
        have HIX := Lib.hid hidx
        have Hp := Lib.hid hp
        clear hp hd hidx HR
        by_cases hlt2 : k < ys.length
        · obtain ⟨b2, off2, rfl, hb2, ha2⟩ := HP2.out (List.ne_nil_of_length_pos (by omega))
          obtain ⟨y, hy⟩ : ∃ y, ys.getD k 0 = y := ⟨_, rfl⟩
          have hyl : y < 1000000000 := by rw [← hy]; exact getD_lt (by omega) HY.out k
          have cy : wr.cell? ⟨b2, off2 + k, none⟩ = some (.int .u64 (y : Nat)) := (HB.out.cell (p := ⟨b2, off2 + k, none⟩) hb2).trans (ha2.getD hlt2 hy)
          have Hy := Lib.hid hy
          clear hy ha2
          by_cases hlt3 : p < bw + y
          · have hlt3' : (p : Int) < (bw : Int) + y := by omega
            have E1 : Hid ((p : Int) + 1000000000 - ((bw : Int) + y) = (p + 1000000000 - (bw + y) : Nat)) := by show _ = _; omega
            have HS := HI.out.step_borrow (by omega) HY.out (less := bw + y) (by have h := Hy.out; omega) (by rw [Hp.out]; exact hlt3)
            rw [Hp.out] at HS
            have HS := Lib.hid HS
            clear hlt3
            go_wp2
            go_roundw
            case rel => exact ⟨k + 1, _, 1, by omega, by go_num, rfl, HS, row_set2 HR1.out HIX.out (n := p + 1000000000) (by omega) E1.out, (HB.out.setCell HG.out _).setCell HG.out _⟩
            case measure => simp [intOf]; omega
          · have hlt3' : ¬ (p : Int) < (bw : Int) + y := by omega
            have E1 : Hid ((p : Int) - ((bw : Int) + y) = (p - (bw + y) : Nat)) := by show _ = _; omega
            have HS := HI.out.step_plain HX.out (by omega) (less := bw + y) (by have h := Hy.out; omega) (by rw [Hp.out]; omega)
            rw [Hp.out] at HS
            have HS := Lib.hid HS
            clear hlt3
            go_wp2
            go_roundw
            case rel => exact ⟨k + 1, _, 0, by omega, by go_num, rfl, HS, row_set1 HR1.out HIX.out E1.out, HB.out.setCell HG.out _⟩
            case measure => simp [intOf]; omega
        · have Hy : Hid (ys.getD k 0 = 0) := by show _ = _; simp [List.getD, hlt2]
          by_cases hlt3 : p < bw
          · have hlt3' : (p : Int) < (bw : Int) := by omega
            have E1 : Hid ((p : Int) + 1000000000 - ((bw : Int)) = (p + 1000000000 - (bw) : Nat)) := by show _ = _; omega
            have HS := HI.out.step_borrow (by omega) HY.out (less := bw) (by have h := Hy.out; omega) (by rw [Hp.out]; exact hlt3)
            rw [Hp.out] at HS
            have HS := Lib.hid HS
            clear hlt3
            go_wp2
            go_roundw
            case rel => exact ⟨k + 1, _, 1, by omega, by go_num, rfl, HS, row_set2 HR1.out HIX.out (n := p + 1000000000) (by omega) E1.out, (HB.out.setCell HG.out _).setCell HG.out _⟩
            case measure => simp [intOf]; omega
          · have hlt3' : ¬ (p : Int) < (bw : Int) := by omega
            have E1 : Hid ((p : Int) - ((bw : Int)) = (p - (bw) : Nat)) := by show _ = _; omega
            have HS := HI.out.step_plain HX.out (by omega) (less := bw) (by have h := Hy.out; omega) (by rw [Hp.out]; omega)
            rw [Hp.out] at HS
            have HS := Lib.hid HS
            clear hlt3
            go_wp2
            go_roundw
            case rel => exact ⟨k + 1, _, 0, by omega, by go_num, rfl, HS, row_set1 HR1.out HIX.out E1.out, HB.out.setCell HG.out _⟩
            case measure => simp [intOf]; omega
      · obtain rfl : k = xs.length := by omega
        have HR2 : Hid (Row .u64 98 wr w.heap.size g cap os) := by have := HR.out; show Row _ _ _ _ _ _ _; simpa using this
        have HL : Hid (∀ z ∈ os, z < 1000000000) := HI.out.lt
        have HD : Hid (val 1000000000 os = n - m) := by show _ = _; rw [HI.out.done hlm (by rw [HV.out.1, HV.out.2]; exact hmn), HV.out.1, HV.out.2]
        go_wp2_with fail
        refine (trim_row HR2.out HL.out _ HI.out.len.symm _ HD.out).mono ?_
        rintro e w' ⟨rfl, rfl, hr2⟩
        have HR3 := Lib.hid hr2
        clear hr2
        go_wp2
        go_ret
        exact ⟨_, rfl, HR3.out.nums, HB.out⟩
end Go.Proofs.YtcncdepjbhnknaaGreatDoor
/- weight's two, and what Mul, Div, Add, Sub do with two fractions. -/
namespace Go.Proofs.YtcncdepjbhnknaaGreatDoor
open Go.RowKit Go.Shelf
attribute [local go_sem ↓] Go.wp_at_zero Go.wp_at_succ



theorem times_num {v1 v2 : Value} {n m : Nat} {w : World} (h1 : Num w v1 n) (h2 : Num w v2 m) (l1 : (limbs 1000000000 n).length ≤ 1000) (l2 : (limbs 1000000000 m).length ≤ 1000) :
    Calls Tryz.prog 64 #[v1, v2] w (NumPost w (n * m)) := by
  refine (times_any h1 h2 (by omega) (by omega)).mono ?_
  rintro e w' ⟨v, rfl, h, hb⟩
  exact ⟨v, rfl, h.num, hb⟩
theorem plus_num {v1 v2 : Value} {n m : Nat} {w : World} (h1 : Num w v1 n) (h2 : Num w v2 m) (l1 : (limbs 1000000000 n).length ≤ 100000) (l2 : (limbs 1000000000 m).length ≤ 100000) :
    Calls Tryz.prog 65 #[v1, v2] w (NumPost w (n + m)) := by
  refine (plus_any h1 h2 (by omega) (by omega)).mono ?_
  rintro e w' ⟨v, rfl, h, hb⟩
  exact ⟨v, rfl, h.num, hb⟩
theorem minus_num {v1 v2 : Value} {n m : Nat} {w : World} (h1 : Num w v1 n) (h2 : Num w v2 m) (hmn : m ≤ n) (l1 : (limbs 1000000000 n).length ≤ 100000) :
    Calls Tryz.prog 91 #[v1, v2] w (NumPost w (n - m)) := minus_any h1 h2 hmn (by omega)

theorem mul_lims {n m k l : Nat} (h1 : (limbs 1000000000 n).length ≤ k) (h2 : (limbs 1000000000 m).length ≤ l) : (limbs 1000000000 (n * m)).length ≤ k + l := by
  refine limbs_length_le (by omega) ?_
  have a1 := val_lt (limbs_lt (B := 1000000000) (by omega) n)
  have a2 := val_lt (limbs_lt (B := 1000000000) (by omega) m)
  rw [val_limbs (by omega)] at a1 a2
  rw [Nat.pow_add]
  refine Nat.mul_lt_mul'' (Nat.lt_of_lt_of_le a1 (Nat.pow_le_pow_right (by omega) h1)) (Nat.lt_of_lt_of_le a2 (Nat.pow_le_pow_right (by omega) h2))
theorem mul_lim {n m : Nat} (h1 : (limbs 1000000000 n).length ≤ 1000) (h2 : (limbs 1000000000 m).length ≤ 1000) : (limbs 1000000000 (n * m)).length ≤ 100000 := Nat.le_trans (mul_lims h1 h2) (by omega)

set_option maxRecDepth 100000 in
set_option maxHeartbeats 4000000 in
theorem mul1_any {v1 v2 v3 v4 : Value} {n1 d1 n2 d2 : Nat} {w : World} (h1 : Num w v1 n1) (h2 : Num w v2 d1) (h3 : Num w v3 n2) (h4 : Num w v4 d2)
    (l1 : (limbs 1000000000 n1).length ≤ 1000) (l2 : (limbs 1000000000 d1).length ≤ 1000) (l3 : (limbs 1000000000 n2).length ≤ 1000) (l4 : (limbs 1000000000 d2).length ≤ 1000) (hd1 : 0 < d1) (hd2 : 0 < d2) (hT : Tabs w) :
    Calls Tryz.prog 71 #[.agg #[v1, v2], .agg #[v3, v4]] w (PartPost (Ans (mkRat ((n1 * n2 : Nat) : Int) (d1 * d2))) w) := by
  obtain ⟨p1, m1, c1, rfl⟩ := h1.form'
  obtain ⟨p2, m2, c2, rfl⟩ := h2.form'
  obtain ⟨p3, m3, c3, rfl⟩ := h3.form'
  obtain ⟨p4, m4, c4, rfl⟩ := h4.form'
  have H1 := Lib.hid h1
  have H2 := Lib.hid h2
  have H3 := Lib.hid h3
  have H4 := Lib.hid h4
  have HT := Lib.hid hT
  clear h1 h2 h3 h4 hT
  have HL1 : Hid ((limbs 1000000000 (n1 * n2)).length ≤ 100000) := mul_lim l1 l3
  have HL2 : Hid ((limbs 1000000000 (d1 * d2)).length ≤ 100000) := mul_lim l2 l4
  have HD : Hid (0 < d1 * d2) := Nat.mul_pos hd1 hd2
  go_enter Tryz.func71, Tryz.ntmps71
  go_wp2_with fail
  obtain ⟨w1, hw1⟩ : ∃ w1, ((w.alloc (.cells #[.slice p1 m1 c1, .slice p2 m2 c2] 95)).alloc (.cells #[.slice p3 m3 c3, .slice p4 m4 c4] 95)).alloc (.cells #[.string ⟨#[]⟩, .string ⟨#[]⟩] 46) = w1 := ⟨_, rfl⟩
  rw [hw1]
  have HX1 : Hid (Boxes w.heap.size [.cells #[.slice p1 m1 c1, .slice p2 m2 c2] 95, .cells #[.slice p3 m3 c3, .slice p4 m4 c4] 95, .cells #[.string ⟨#[]⟩, .string ⟨#[]⟩] 46] w1) := by rw [← hw1]; exact Boxes.three w _ _ _
  have HB1 : Hid (Below w.heap.size w w1) := by rw [← hw1]; exact (((Below.refl _ w).alloc (Nat.le_refl _) _).alloc (by simp) _).alloc (by simp <;> omega) _
  clear hw1
  have ka1 := HX1.out.cell 0 0 (b := w.heap.size) rfl rfl rfl
  have kb1 := HX1.out.cell 0 1 (b := w.heap.size) rfl rfl rfl
  have kc1 := HX1.out.cell 1 0 (b := w.heap.size + 1) rfl rfl rfl
  have kd1 := HX1.out.cell 1 1 (b := w.heap.size + 1) rfl rfl rfl
  go_region_held3
    (fun w' => w'.cell? ⟨w.heap.size, 0, none⟩ = some (.slice p1 m1 c1) ∧ w'.cell? ⟨w.heap.size, 1, none⟩ = some (.slice p2 m2 c2) ∧ w'.cell? ⟨w.heap.size + 1, 0, none⟩ = some (.slice p3 m3 c3) ∧ w'.cell? ⟨w.heap.size + 1, 1, none⟩ = some (.slice p4 m4 c4))
    (first | exact ⟨ka1, kb1, kc1, kd1⟩ | exact ⟨ka2, kb2, kc2, kd2⟩ | exact ⟨ka3, kb3, kc3, kd3⟩ | exact ⟨ka4, kb4, kc4, kd4⟩ | exact ⟨ka5, kb5, kc5, kd5⟩ | exact ⟨ka6, kb6, kc6, kd6⟩ | exact ⟨(other_put _ _ _ (by omega) _).trans ka9, (other_put _ _ _ (by omega) _).trans kb9, (other_put _ _ _ (by omega) _).trans kc9, (other_put _ _ _ (by omega) _).trans kd9⟩ | exact ⟨ka9, kb9, kc9, kd9⟩)
    (first
      | (go_at_call_of 64 (Value.slice p1 m1 c1); refine (times_num (H1.out.after HB1.out.drew (Nat.le_refl _)) (H3.out.after HB1.out.drew (Nat.le_refl _)) l1 l3).mono ?_; rintro e w4 ⟨va, rfl, hv, hb⟩; obtain ⟨pa, ma, ca, rfl⟩ := hv.form'; have HA := Lib.hid hv;  have HX4 := Lib.hid (HX1.out.drew.below hb HX1.out.lt); have HB4 : Hid (Below w.heap.size w w4) := HB1.out.drew.trans (hb.mono HB1.out.drew.size); have ka4 := HX4.out.cell 0 0 (b := w.heap.size) rfl rfl rfl; have kb4 := HX4.out.cell 0 1 (b := w.heap.size) rfl rfl rfl; have kc4 := HX4.out.cell 1 0 (b := w.heap.size + 1) rfl rfl rfl; have kd4 := HX4.out.cell 1 1 (b := w.heap.size + 1) rfl rfl rfl; clear hv hb)
      | (go_at_call_of 64 (Value.slice p2 m2 c2); refine (times_num (H2.out.after HB4.out (Nat.le_refl _)) (H4.out.after HB4.out (Nat.le_refl _)) l2 l4).mono ?_; rintro e w5 ⟨vb, rfl, hv, hb⟩; obtain ⟨pb, mb, cb, rfl⟩ := hv.form'; have HC := Lib.hid hv; have HA5 := Lib.hid (HA.out.after hb (Nat.le_refl _)); have HX5 := Lib.hid (HX4.out.below hb HX4.out.lt); have HB5 : Hid (Below w.heap.size w w5) := HB4.out.trans (hb.mono HB4.out.size); have ka5 := HX5.out.cell 0 0 (b := w.heap.size) rfl rfl rfl; have kb5 := HX5.out.cell 0 1 (b := w.heap.size) rfl rfl rfl; have kc5 := HX5.out.cell 1 0 (b := w.heap.size + 1) rfl rfl rfl; have kd5 := HX5.out.cell 1 1 (b := w.heap.size + 1) rfl rfl rfl; clear hv hb)
      | (go_at_call 66; refine (part_any HA5.out HC.out HL1.out HL2.out HD.out (HT.out.below HB5.out (Nat.le_refl _))).mono ?_; rintro e w9 ⟨x, y, n, rfl, hR, hb9⟩; have HR := Lib.hid hR; have HX9 := Lib.hid (HX5.out.below hb9 HX5.out.lt); have HB9 : Hid (Below w.heap.size w w9) := HB5.out.trans (hb9.mono HB5.out.size); have ka9 := HX9.out.cell 0 0 (b := w.heap.size) rfl rfl rfl; have kb9 := HX9.out.cell 0 1 (b := w.heap.size) rfl rfl rfl; have kc9 := HX9.out.cell 1 0 (b := w.heap.size + 1) rfl rfl rfl; have kd9 := HX9.out.cell 1 1 (b := w.heap.size + 1) rfl rfl rfl; have r0 := HX9.out.cell 2 0 (b := w.heap.size + 1 + 1) rfl rfl rfl; have r1 := HX9.out.cell 2 1 (b := w.heap.size + 1 + 1) rfl rfl rfl; have f0 := HX9.out.free 2 0 (b := w.heap.size + 1 + 1) rfl rfl; have f1 := HX9.out.free 2 1 (b := w.heap.size + 1 + 1) rfl rfl; clear hR hb9)
    )
  all_goals
    have q := two_put_cells (HX9.out.block 2 (b := w.heap.size + 1 + 1) rfl rfl) (.string x) (.string y)
    have HBQ := Lib.hid (two_put_below HB9.out (b := w.heap.size + 1 + 1) (by omega) (.string x) (.string y))
    obtain ⟨wz, hwz⟩ : ∃ wz, (w9.setCell ⟨w.heap.size + 1 + 1, 0, none⟩ (.string x)).setCell ⟨w.heap.size + 1 + 1, 1, none⟩ (.string y) = wz := ⟨_, rfl⟩
    rw [hwz] at q HBQ
    obtain ⟨q0, q1⟩ := q
    rw [hwz]
    clear r0 r1 f0 f1 hwz
    go_wp2
    refine bodyPost_ret (v := .tuple #[.agg #[.string x, .string y], .int .i64 n]) (by simp [results, Tryz.f71, go_sem, q0, q1]) rfl ⟨_, _, _, rfl, HR.out, HBQ.out⟩

set_option maxRecDepth 100000 in
set_option maxHeartbeats 4000000 in
theorem div1_zero {v1 v2 v3 v4 : Value} {n1 d1 n2 d2 : Nat} {w : World} (h1 : Num w v1 n1) (h2 : Num w v2 d1) (h3 : Num w v3 n2) (h4 : Num w v4 d2)
    (l1 : (limbs 1000000000 n1).length ≤ 1000) (l2 : (limbs 1000000000 d1).length ≤ 1000) (l3 : (limbs 1000000000 n2).length ≤ 1000) (l4 : (limbs 1000000000 d2).length ≤ 1000) (hd1 : 0 < d1) (hd2 : 0 < d2) (hT : Tabs w) (h0 : n2 = 0) :
    Calls Tryz.prog 129 #[.agg #[v1, v2], .agg #[v3, v4]] w (PartPost (fun s t e => s = str [] ∧ t = str [] ∧ e = 10) w) := by
  subst h0
  obtain ⟨p3, c3, rfl, _, _, _⟩ := h3
  obtain ⟨p1, m1, c1, rfl⟩ := h1.form'
  obtain ⟨p2, m2, c2, rfl⟩ := h2.form'
  obtain ⟨p4, m4, c4, rfl⟩ := h4.form'
  rw [limbs_zero, List.length_nil]
  obtain ⟨m3, hm3⟩ : ∃ m, 0 = m := ⟨_, rfl⟩
  have hm : ((m3 : Nat) : Int) == 0 := by simp; omega
  clear h1 h2 h4
  rw [hm3]
  have HM3 := Lib.hid hm3
  clear hm3
  go_enter Tryz.func129, Tryz.ntmps129
  go_wp2_with fail
  obtain ⟨w1, hw1⟩ : ∃ w1, ((w.alloc (.cells #[.slice p1 m1 c1, .slice p2 m2 c2] 95)).alloc (.cells #[.slice p3 m3 c3, .slice p4 m4 c4] 95)).alloc (.cells #[.string ⟨#[]⟩, .string ⟨#[]⟩] 46) = w1 := ⟨_, rfl⟩
  rw [hw1]
  have HX1 : Hid (Boxes w.heap.size [.cells #[.slice p1 m1 c1, .slice p2 m2 c2] 95, .cells #[.slice p3 m3 c3, .slice p4 m4 c4] 95, .cells #[.string ⟨#[]⟩, .string ⟨#[]⟩] 46] w1) := by rw [← hw1]; exact Boxes.three w _ _ _
  have HB1 : Hid (Below w.heap.size w w1) := by rw [← hw1]; exact (((Below.refl _ w).alloc (Nat.le_refl _) _).alloc (by simp) _).alloc (by simp <;> omega) _
  clear hw1
  have r0 := HX1.out.cell 2 0 (b := w.heap.size + 1 + 1) rfl rfl rfl
  have r1 := HX1.out.cell 2 1 (b := w.heap.size + 1 + 1) rfl rfl rfl
  refine bodyPost_ret (v := .tuple #[.agg #[.string ⟨#[]⟩, .string ⟨#[]⟩], .int .i64 10]) (by simp [results, Tryz.f129, go_sem, r0, r1]) rfl ⟨_, _, _, rfl, ?_, HB1.out⟩
  exact ⟨rfl, rfl, rfl⟩

set_option maxRecDepth 100000 in
set_option maxHeartbeats 4000000 in
theorem div1_any {v1 v2 v3 v4 : Value} {n1 d1 n2 d2 : Nat} {w : World} (h1 : Num w v1 n1) (h2 : Num w v2 d1) (h3 : Num w v3 n2) (h4 : Num w v4 d2)
    (l1 : (limbs 1000000000 n1).length ≤ 1000) (l2 : (limbs 1000000000 d1).length ≤ 1000) (l3 : (limbs 1000000000 n2).length ≤ 1000) (l4 : (limbs 1000000000 d2).length ≤ 1000) (hd1 : 0 < d1) (hd2 : 0 < d2) (hT : Tabs w) (h0 : 0 < n2) :
    Calls Tryz.prog 129 #[.agg #[v1, v2], .agg #[v3, v4]] w (PartPost (Ans (mkRat ((n1 * d2 : Nat) : Int) (d1 * n2))) w) := by
  obtain ⟨m0, hm0⟩ : ∃ m, (limbs 1000000000 n2).length = m := ⟨_, rfl⟩
  have hmp := (limbs_length_pos (B := 1000000000) (by omega)).2 h0
  obtain ⟨p3, c3, rfl⟩ := h3.form
  rw [hm0] at h3 hmp l3 ⊢
  obtain ⟨m3, rfl⟩ : ∃ m, m0 = m := ⟨_, rfl⟩
  have hz : (((m0 : Nat) : Int) == 0) = false := by rw [beq_eq_false_iff_ne]; omega
  have L3 : Hid ((limbs 1000000000 n2).length ≤ 1000) := by show _ ≤ _; rw [hm0]; exact l3
  clear hm0
  obtain ⟨p1, m1, c1, rfl⟩ := h1.form'
  obtain ⟨p2, m2, c2, rfl⟩ := h2.form'
  obtain ⟨p4, m4, c4, rfl⟩ := h4.form'
  have H1 := Lib.hid h1
  have H2 := Lib.hid h2
  have H3 := Lib.hid h3
  have H4 := Lib.hid h4
  have HT := Lib.hid hT
  clear h1 h2 h3 h4 hT
  obtain ⟨m3, hm3⟩ : ∃ m, m0 = m := ⟨_, rfl⟩
  subst hm3
  have HL1 : Hid ((limbs 1000000000 (n1 * d2)).length ≤ 100000) := mul_lim l1 l4
  have HL2 : Hid ((limbs 1000000000 (d1 * n2)).length ≤ 100000) := mul_lim l2 L3.out
  have HD : Hid (0 < d1 * n2) := Nat.mul_pos hd1 h0
  go_enter Tryz.func129, Tryz.ntmps129
  go_wp2_with fail
  obtain ⟨w1, hw1⟩ : ∃ w1, ((w.alloc (.cells #[.slice p1 m1 c1, .slice p2 m2 c2] 95)).alloc (.cells #[.slice p3 m0 c3, .slice p4 m4 c4] 95)).alloc (.cells #[.string ⟨#[]⟩, .string ⟨#[]⟩] 46) = w1 := ⟨_, rfl⟩
  rw [hw1]
  have HX1 : Hid (Boxes w.heap.size [.cells #[.slice p1 m1 c1, .slice p2 m2 c2] 95, .cells #[.slice p3 m0 c3, .slice p4 m4 c4] 95, .cells #[.string ⟨#[]⟩, .string ⟨#[]⟩] 46] w1) := by rw [← hw1]; exact Boxes.three w _ _ _
  have HB1 : Hid (Below w.heap.size w w1) := by rw [← hw1]; exact (((Below.refl _ w).alloc (Nat.le_refl _) _).alloc (by simp) _).alloc (by simp <;> omega) _
  clear hw1
  have ka1 := HX1.out.cell 0 0 (b := w.heap.size) rfl rfl rfl
  have kb1 := HX1.out.cell 0 1 (b := w.heap.size) rfl rfl rfl
  have kc1 := HX1.out.cell 1 0 (b := w.heap.size + 1) rfl rfl rfl
  have kd1 := HX1.out.cell 1 1 (b := w.heap.size + 1) rfl rfl rfl
  go_wp2_with fail
  go_region_held3
    (fun w' => w'.cell? ⟨w.heap.size, 0, none⟩ = some (.slice p1 m1 c1) ∧ w'.cell? ⟨w.heap.size, 1, none⟩ = some (.slice p2 m2 c2) ∧ w'.cell? ⟨w.heap.size + 1, 0, none⟩ = some (.slice p3 m0 c3) ∧ w'.cell? ⟨w.heap.size + 1, 1, none⟩ = some (.slice p4 m4 c4))
    (first | exact ⟨ka1, kb1, kc1, kd1⟩ | exact ⟨ka2, kb2, kc2, kd2⟩ | exact ⟨ka3, kb3, kc3, kd3⟩ | exact ⟨ka4, kb4, kc4, kd4⟩ | exact ⟨ka5, kb5, kc5, kd5⟩ | exact ⟨ka6, kb6, kc6, kd6⟩ | exact ⟨(other_put _ _ _ (by omega) _).trans ka9, (other_put _ _ _ (by omega) _).trans kb9, (other_put _ _ _ (by omega) _).trans kc9, (other_put _ _ _ (by omega) _).trans kd9⟩ | exact ⟨ka9, kb9, kc9, kd9⟩)
    (first
      | (go_at_call_of 64 (Value.slice p1 m1 c1); refine (times_num (H1.out.after HB1.out.drew (Nat.le_refl _)) (H4.out.after HB1.out.drew (Nat.le_refl _)) l1 l4).mono ?_; rintro e w4 ⟨va, rfl, hv, hb⟩; obtain ⟨pa, ma, ca, rfl⟩ := hv.form'; have HA := Lib.hid hv;  have HX4 := Lib.hid (HX1.out.drew.below hb HX1.out.lt); have HB4 : Hid (Below w.heap.size w w4) := HB1.out.drew.trans (hb.mono HB1.out.drew.size); have ka4 := HX4.out.cell 0 0 (b := w.heap.size) rfl rfl rfl; have kb4 := HX4.out.cell 0 1 (b := w.heap.size) rfl rfl rfl; have kc4 := HX4.out.cell 1 0 (b := w.heap.size + 1) rfl rfl rfl; have kd4 := HX4.out.cell 1 1 (b := w.heap.size + 1) rfl rfl rfl; clear hv hb)
      | (go_at_call_of 64 (Value.slice p2 m2 c2); refine (times_num (H2.out.after HB4.out (Nat.le_refl _)) (H3.out.after HB4.out (Nat.le_refl _)) l2 L3.out).mono ?_; rintro e w5 ⟨vb, rfl, hv, hb⟩; obtain ⟨pb, mb, cb, rfl⟩ := hv.form'; have HC := Lib.hid hv; have HA5 := Lib.hid (HA.out.after hb (Nat.le_refl _)); have HX5 := Lib.hid (HX4.out.below hb HX4.out.lt); have HB5 : Hid (Below w.heap.size w w5) := HB4.out.trans (hb.mono HB4.out.size); have ka5 := HX5.out.cell 0 0 (b := w.heap.size) rfl rfl rfl; have kb5 := HX5.out.cell 0 1 (b := w.heap.size) rfl rfl rfl; have kc5 := HX5.out.cell 1 0 (b := w.heap.size + 1) rfl rfl rfl; have kd5 := HX5.out.cell 1 1 (b := w.heap.size + 1) rfl rfl rfl; clear hv hb)
      | (go_at_call 66; refine (part_any HA5.out HC.out HL1.out HL2.out HD.out (HT.out.below HB5.out (Nat.le_refl _))).mono ?_; rintro e w9 ⟨x, y, n, rfl, hR, hb9⟩; have HR := Lib.hid hR; have HX9 := Lib.hid (HX5.out.below hb9 HX5.out.lt); have HB9 : Hid (Below w.heap.size w w9) := HB5.out.trans (hb9.mono HB5.out.size); have ka9 := HX9.out.cell 0 0 (b := w.heap.size) rfl rfl rfl; have kb9 := HX9.out.cell 0 1 (b := w.heap.size) rfl rfl rfl; have kc9 := HX9.out.cell 1 0 (b := w.heap.size + 1) rfl rfl rfl; have kd9 := HX9.out.cell 1 1 (b := w.heap.size + 1) rfl rfl rfl; have r0 := HX9.out.cell 2 0 (b := w.heap.size + 1 + 1) rfl rfl rfl; have r1 := HX9.out.cell 2 1 (b := w.heap.size + 1 + 1) rfl rfl rfl; have f0 := HX9.out.free 2 0 (b := w.heap.size + 1 + 1) rfl rfl; have f1 := HX9.out.free 2 1 (b := w.heap.size + 1 + 1) rfl rfl; clear hR hb9)
    )
  all_goals
    have q := two_put_cells (HX9.out.block 2 (b := w.heap.size + 1 + 1) rfl rfl) (.string x) (.string y)
    have HBQ := Lib.hid (two_put_below HB9.out (b := w.heap.size + 1 + 1) (by omega) (.string x) (.string y))
    obtain ⟨wz, hwz⟩ : ∃ wz, (w9.setCell ⟨w.heap.size + 1 + 1, 0, none⟩ (.string x)).setCell ⟨w.heap.size + 1 + 1, 1, none⟩ (.string y) = wz := ⟨_, rfl⟩
    rw [hwz] at q HBQ
    obtain ⟨q0, q1⟩ := q
    rw [hwz]
    clear r0 r1 f0 f1 hwz
    go_wp2
    refine bodyPost_ret (v := .tuple #[.agg #[.string x, .string y], .int .i64 n]) (by simp [results, Tryz.f129, go_sem, q0, q1]) rfl ⟨_, _, _, rfl, HR.out, HBQ.out⟩

end Go.Proofs.YtcncdepjbhnknaaGreatDoor
