/- The parts RMade, RCheck, RPlus of a proof, put together by program (merge6.py). -/
import Derived.Test.YtcncdepjbhnknaaGreatDoorJ01
import Derived.Test.YtcncdepjbhnknaaGreatDoorJ02
import Derived.Test.YtcncdepjbhnknaaGreatDoorH12
import Derived.Deep.RegionHeld3
import Derived.Deep.DrawnRows
set_option linter.unusedVariables false
set_option linter.unusedSimpArgs false
/- The document's parts, nat, made, Check, Make: fractions in lowest terms. -/
namespace Go.Proofs.YtcncdepjbhnknaaGreatDoor
open Go.RowKit Go.Shelf
attribute [local go_sem ↓] Go.wp_at_zero Go.wp_at_succ



theorem rparts_any (s : ByteArray) (hl : s.size ≤ 1000000) (hd : ∀ c ∈ s.data.toList, isDig c = true) (w : World) :
    Calls Tryz.prog 119 #[.string s] w (PPost w (decVal s.data.toList)) := by
  have hp := parts_any s hl hd w
  clear hd
  go_enter Tryz.func119, Tryz.ntmps119
  go_wp2_with fail
  refine hp.mono ?_
  rintro e w1 ⟨v, rfl, hv, hb⟩
  obtain ⟨p, m, c, rfl⟩ := hv.form
  have HV := Lib.hid hv
  have HB := Lib.hid hb
  clear hp hv hb
  go_wp2
  go_ret
  exact ⟨_, rfl, HV.out, HB.out⟩
theorem rnatOf_any {v : Value} {n : Nat} {w : World} (h : PNum w v n) (hl : (limbs 10000 n).length ≤ 1000000) :
    Calls Tryz.prog 126 #[v] w (StrPost (str (Lib.decDigits n)) w) := by
  have hp := rdigits_any h hl
  clear h
  go_enter Tryz.func126, Tryz.ntmps126
  go_wp2_with fail
  refine hp.mono ?_
  rintro e w1 ⟨rfl, hb⟩
  have HB := Lib.hid hb
  clear hp hb
  go_wp2
  go_ret
  exact ⟨rfl, HB.out⟩

set_option maxRecDepth 100000 in
set_option maxHeartbeats 4000000 in
theorem made_any {v1 v2 : Value} {n d : Nat} {w : World} (h1 : PNum w v1 n) (h2 : PNum w v2 d) (hl1 : (limbs 10000 n).length ≤ 100000) (hl2 : (limbs 10000 d).length ≤ 100000) (hd : 0 < d) :
    Calls Tryz.prog 117 #[v1, v2] w (PartPost (Ans (mkRat (n : Nat) d)) w) := by
  obtain ⟨g, hg⟩ : ∃ g, Nat.gcd n d = g := ⟨_, rfl⟩
  have hg0 : 0 < g := by rw [← hg]; exact Nat.gcd_pos_of_pos_right _ hd
  have hgl : (limbs 10000 g).length ≤ 100000 := Nat.le_trans (limbs_length_mono (by omega) (by rw [← hg]; exact Nat.gcd_le_right _ hd)) hl2
  have HQ : Hid (numD (mkRat (n : Nat) d) = Lib.decDigits (n / g) ∧ denD (mkRat (n : Nat) d) = Lib.decDigits (d / g)) := by rw [← hg]; exact digits_mkRat n hd
  obtain ⟨p1, m1, c1, rfl⟩ := h1.form
  obtain ⟨p2, m2, c2, rfl⟩ := h2.form
  have H1 := Lib.hid h1
  have H2 := Lib.hid h2
  have HG0 := Lib.hid hg
  clear h1 h2 hg
  go_enter Tryz.func117, Tryz.ntmps117
  go_wp2_with fail
  obtain ⟨w1, hw1⟩ : ∃ w1, w.alloc (.cells #[.string ⟨#[]⟩, .string ⟨#[]⟩] 46) = w1 := ⟨_, rfl⟩
  rw [hw1]
  have HX1 : Hid (Boxes w.heap.size [.cells #[.string ⟨#[]⟩, .string ⟨#[]⟩] 46] w1) := by rw [← hw1]; exact Boxes.one w _
  have HB1 : Hid (Below w.heap.size w w1) := by rw [← hw1]; exact (Below.refl _ w).alloc (Nat.le_refl _) _
  clear hw1
  refine (rgcd_any (H1.out.after HB1.out (Nat.le_refl _)) (H2.out.after HB1.out (Nat.le_refl _)) hl1 hl2).mono ?_
  rintro e w2 ⟨vg, rfl, hG, hb2⟩
  obtain ⟨pg, lg, cg, rfl⟩ := hG.form
  rw [HG0.out] at hG
  have HG := Lib.hid hG
  have HB2 := Lib.hid (HB1.out.trans (hb2.mono HB1.out.size))
  have HX2 := Lib.hid (HX1.out.below hb2 HX1.out.lt)
  clear hG hb2
  go_wp2_with fail
  refine (rover_any (H1.out.after HB2.out (Nat.le_refl _)) HG.out hl1 hgl hg0).mono ?_
  rintro e w3 ⟨vn, vr, rfl, hN, hR, hb3⟩
  obtain ⟨pn, ln, cn, rfl⟩ := hN.form
  obtain ⟨pr, lr, cr, rfl⟩ := hR.form
  have HN3 := Lib.hid hN
  have HG3 := Lib.hid (HG.out.after hb3 (Nat.le_refl _))
  have HB3 := Lib.hid (HB2.out.trans (hb3.mono HB2.out.size))
  have HX3 := Lib.hid (HX2.out.below hb3 HX2.out.lt)
  clear hN hR hb3
  go_wp2_with fail
  refine (rover_any (H2.out.after HB3.out (Nat.le_refl _)) HG3.out hl2 hgl hg0).mono ?_
  rintro e w4 ⟨vd, vs, rfl, hD, hS, hb4⟩
  obtain ⟨pd, ld, cd, rfl⟩ := hD.form
  obtain ⟨ps, ls, cs, rfl⟩ := hS.form
  have HD4 := Lib.hid hD
  have HN4 := Lib.hid (HN3.out.after hb4 (Nat.le_refl _))
  have HB4 := Lib.hid (HB3.out.trans (hb4.mono HB3.out.size))
  have HX4 := Lib.hid (HX3.out.below hb4 HX3.out.lt)
  clear hD hS hb4
  have hln : (limbs 10000 (n / g)).length ≤ 100000 := Nat.le_trans (limbs_length_mono (by omega) (Nat.div_le_self _ _)) hl1
  have hld : (limbs 10000 (d / g)).length ≤ 100000 := Nat.le_trans (limbs_length_mono (by omega) (Nat.div_le_self _ _)) hl2
  go_wp2_with fail
  refine (rnatOf_any HN4.out (by omega)).mono ?_
  rintro e w5 ⟨rfl, hb5⟩
  have HD5 := Lib.hid (HD4.out.after hb5 (Nat.le_refl _))
  have HB5 := Lib.hid (HB4.out.trans (hb5.mono HB4.out.size))
  have HX5 := Lib.hid (HX4.out.below hb5 HX4.out.lt)
  clear hb5
  obtain ⟨s, hs⟩ : ∃ s, str (Lib.decDigits (n / g)) = s := ⟨_, rfl⟩
  rw [hs]
  have HS : Hid (str (Lib.decDigits (n / g)) = s ∧ s.size = (Lib.decDigits (n / g)).length) := ⟨hs, by rw [← hs, str_size]⟩
  clear hs
  go_wp2_with fail
  refine (rnatOf_any HD5.out (by omega)).mono ?_
  rintro e w6 ⟨rfl, hb6⟩
  have HB6 := Lib.hid (HB5.out.trans (hb6.mono HB5.out.size))
  have HX6 := Lib.hid (HX5.out.below hb6 HX5.out.lt)
  clear hb6
  obtain ⟨t, ht⟩ : ∃ t, str (Lib.decDigits (d / g)) = t := ⟨_, rfl⟩
  rw [ht]
  have HT : Hid (str (Lib.decDigits (d / g)) = t ∧ t.size = (Lib.decDigits (d / g)).length) := ⟨ht, by rw [← ht, str_size]⟩
  clear ht
  have c0 : (w6.alloc (.cells #[.string s, .string t] 46)).cell? ⟨w6.heap.size, 0, none⟩ = some (.string s) := cell_new _ _ _ 0 rfl
  have c1 : (w6.alloc (.cells #[.string s, .string t] 46)).cell? ⟨w6.heap.size, 1, none⟩ = some (.string t) := cell_new _ _ _ 1 rfl
  have HX7 := Lib.hid (HX6.out.alloc (.cells #[.string s, .string t] 46))
  have HB7 := Lib.hid (HB6.out.alloc HB6.out.size (.cells #[.string s, .string t] 46))
  by_cases e1 : (600 : Int) < s.size
  · skip
    have r0 := HX7.out.cell 0 0 (b := w.heap.size) rfl rfl rfl
    have r1 := HX7.out.cell 0 1 (b := w.heap.size) rfl rfl rfl
    have f0 := HX7.out.free 0 0 (b := w.heap.size) rfl rfl
    have f1 := HX7.out.free 0 1 (b := w.heap.size) rfl rfl
    go_wp2
    have q := two_put_cells (HX7.out.block 0 (b := w.heap.size) rfl rfl) (.string ⟨#[]⟩) (.string ⟨#[]⟩)
    have HBQ := Lib.hid (two_put_below HB7.out (b := w.heap.size) (by omega) (.string ⟨#[]⟩) (.string ⟨#[]⟩))
    obtain ⟨w9, hw9⟩ : ∃ w9, ((w6.alloc (.cells #[.string s, .string t] 46)).setCell ⟨w.heap.size, 0, none⟩ (.string ⟨#[]⟩)).setCell ⟨w.heap.size, 1, none⟩ (.string ⟨#[]⟩) = w9 := ⟨_, rfl⟩
    rw [hw9] at q HBQ
    obtain ⟨q0, q1⟩ := q
    rw [hw9]
    clear r0 r1 f0 f1 hw9
    go_wp2
    refine bodyPost_ret (v := .tuple #[.agg #[.string ⟨#[]⟩, .string ⟨#[]⟩], .int .i64 4]) (by simp [results, Tryz.f117, go_sem, q0, q1]) rfl ⟨_, _, _, rfl, ?_, HBQ.out⟩
    exact .inr ⟨fun hf => by have := hf.1; rw [HQ.out.1, ← HS.out.2] at this; omega, rfl, rfl, rfl⟩
  · by_cases e2 : (600 : Int) < t.size
    · skip
      have r0 := HX7.out.cell 0 0 (b := w.heap.size) rfl rfl rfl
      have r1 := HX7.out.cell 0 1 (b := w.heap.size) rfl rfl rfl
      have f0 := HX7.out.free 0 0 (b := w.heap.size) rfl rfl
      have f1 := HX7.out.free 0 1 (b := w.heap.size) rfl rfl
      go_wp2
      have q := two_put_cells (HX7.out.block 0 (b := w.heap.size) rfl rfl) (.string ⟨#[]⟩) (.string ⟨#[]⟩)
      have HBQ := Lib.hid (two_put_below HB7.out (b := w.heap.size) (by omega) (.string ⟨#[]⟩) (.string ⟨#[]⟩))
      obtain ⟨w9, hw9⟩ : ∃ w9, ((w6.alloc (.cells #[.string s, .string t] 46)).setCell ⟨w.heap.size, 0, none⟩ (.string ⟨#[]⟩)).setCell ⟨w.heap.size, 1, none⟩ (.string ⟨#[]⟩) = w9 := ⟨_, rfl⟩
      rw [hw9] at q HBQ
      obtain ⟨q0, q1⟩ := q
      rw [hw9]
      clear r0 r1 f0 f1 hw9
      go_wp2
      refine bodyPost_ret (v := .tuple #[.agg #[.string ⟨#[]⟩, .string ⟨#[]⟩], .int .i64 4]) (by simp [results, Tryz.f117, go_sem, q0, q1]) rfl ⟨_, _, _, rfl, ?_, HBQ.out⟩
      exact .inr ⟨fun hf => by have := hf.2; rw [HQ.out.2, ← HT.out.2] at this; omega, rfl, rfl, rfl⟩
    · skip
      have r0 := HX7.out.cell 0 0 (b := w.heap.size) rfl rfl rfl
      have r1 := HX7.out.cell 0 1 (b := w.heap.size) rfl rfl rfl
      have f0 := HX7.out.free 0 0 (b := w.heap.size) rfl rfl
      have f1 := HX7.out.free 0 1 (b := w.heap.size) rfl rfl
      go_wp2
      have q := two_put_cells (HX7.out.block 0 (b := w.heap.size) rfl rfl) (.string s) (.string t)
      have HBQ := Lib.hid (two_put_below HB7.out (b := w.heap.size) (by omega) (.string s) (.string t))
      obtain ⟨w9, hw9⟩ : ∃ w9, ((w6.alloc (.cells #[.string s, .string t] 46)).setCell ⟨w.heap.size, 0, none⟩ (.string s)).setCell ⟨w.heap.size, 1, none⟩ (.string t) = w9 := ⟨_, rfl⟩
      rw [hw9] at q HBQ
      obtain ⟨q0, q1⟩ := q
      rw [hw9]
      clear r0 r1 f0 f1 hw9
      go_wp2
      refine bodyPost_ret (v := .tuple #[.agg #[.string s, .string t], .int .i64 0]) (by simp [results, Tryz.f117, go_sem, q0, q1]) rfl ⟨_, _, _, rfl, ?_, HBQ.out⟩
      refine .inl ⟨⟨mkRat_nonneg _ _, ?_, ?_, ?_⟩, rfl⟩
      · rw [← HS.out.1, HQ.out.1]
      · rw [← HT.out.1, HQ.out.2]
      · unfold Fits
        rw [HQ.out.1, HQ.out.2, ← HS.out.2, ← HT.out.2]
        omega
end Go.Proofs.YtcncdepjbhnknaaGreatDoor
/- The document's Check, both, Make. -/
namespace Go.Proofs.YtcncdepjbhnknaaGreatDoor
open Go.RowKit Go.Shelf
attribute [local go_sem ↓] Go.wp_at_zero Go.wp_at_succ



theorem decVal_rlim {s : ByteArray} (hd : ∀ c ∈ s.data.toList, isDig c = true) {j : Nat} (hj : s.size ≤ 4 * j) : (limbs 10000 (decVal s.data.toList)).length ≤ j := by
  refine limbs_length_le (by omega) (Nat.lt_of_lt_of_le (decVal_lt hd) ?_)
  have e : (10000 : Nat) ^ j = 10 ^ (4 * j) := by rw [Nat.pow_mul]
  rw [e, size_len]
  exact Nat.pow_le_pow_right (by omega) hj
/-- What the document's walks need of a valid fraction. -/
structure ROk (s t : ByteArray) (n d : Nat) : Prop where
  ds : ∀ c ∈ s.data.toList, isDig c = true
  dt : ∀ c ∈ t.data.toList, isDig c = true
  ls : (limbs 10000 n).length ≤ 150
  lt : (limbs 10000 d).length ≤ 150
  pos : 0 < d
theorem rnok {s : ByteArray} (h : natOk s.data.toList = true) : (∀ c ∈ s.data.toList, isDig c = true) ∧ (limbs 10000 (decVal s.data.toList)).length ≤ 150 := by
  obtain ⟨h1, h2⟩ := canon_of_nat h
  exact ⟨h1.dig, decVal_rlim h1.dig (by rw [← size_len]; omega)⟩
theorem rok {s t : ByteArray} (h : okP s t = true) : ROk s t (decVal s.data.toList) (decVal t.data.toList) := by
  obtain ⟨h1, h2, h3, h4⟩ := okP_iff.1 h
  exact ⟨(rnok h1).1, (rnok h2).1, (rnok h1).2, (rnok h2).2, h3⟩
theorem one_text {g : Nat} : ((str (Lib.decDigits g)).toList == [49]) = decide (g = 1) := by
  rw [ByteArray.toList_eq, str_data]
  by_cases h : g = 1
  · subst h; rw [decDigits_one']; rfl
  · have h2 : ¬ Lib.decDigits g = [49] := fun hc => h (decDigits_inj (by rw [hc, decDigits_one']))
    rw [decide_eq_false h, beq_eq_false_iff_ne]
    exact h2

set_option maxRecDepth 100000 in
set_option maxHeartbeats 4000000 in
theorem rcheck_any (s t : ByteArray) (w : World) (hs : s.size ≤ 1000000) (ht : t.size ≤ 1000000) :
    Calls Tryz.prog 120 #[.agg #[.string s, .string t]] w (IntPost w (okE s t)) := by
  cases h1 : natOk s.data.toList
  · have HQ := Lib.hid (okP_left (t := t) h1)
    have H1 := Lib.hid h1
    obtain ⟨b2, hb2⟩ : ∃ b, natOk t.data.toList = b := ⟨_, rfl⟩
    have H2 := Lib.hid hb2
    clear h1 hb2
    go_enter Tryz.func120, Tryz.ntmps120
    go_wp2_with fail
    refine (rnat_any s _ hs).mono ?_
    rintro e w2 ⟨rfl, rfl⟩
    rw [H1.out]
    have HX1 := Lib.hid (Boxes.one w (.cells #[.string s, .string t] 46))
    have HB1 := Lib.hid ((Below.refl _ w).alloc (Nat.le_refl _) (.cells #[.string s, .string t] 46))
    have c1 := HX1.out.cell 0 1 (b := w.heap.size) rfl rfl rfl
    go_wp2_with fail
    refine (rnat_any t _ ht).mono ?_
    rintro e w3 ⟨rfl, rfl⟩
    rw [H2.out]
    go_wp2
    go_ret
    exact ⟨by rw [okE_no HQ.out]; rfl, HB1.out⟩
  · have H1 := Lib.hid h1
    clear h1
    cases h2 : natOk t.data.toList
    · have HQ := Lib.hid (okP_right (s := s) h2)
      have H2 := Lib.hid h2
      clear h2
      go_enter Tryz.func120, Tryz.ntmps120
      go_wp2_with fail
      refine (rnat_any s _ hs).mono ?_
      rintro e w2 ⟨rfl, rfl⟩
      rw [H1.out]
      have HX1 := Lib.hid (Boxes.one w (.cells #[.string s, .string t] 46))
      have HB1 := Lib.hid ((Below.refl _ w).alloc (Nat.le_refl _) (.cells #[.string s, .string t] 46))
      have c1 := HX1.out.cell 0 1 (b := w.heap.size) rfl rfl rfl
      go_wp2_with fail
      refine (rnat_any t _ ht).mono ?_
      rintro e w3 ⟨rfl, rfl⟩
      rw [H2.out]
      go_wp2
      go_ret
      exact ⟨by rw [okE_no HQ.out]; rfl, HB1.out⟩
    · have HZ := Lib.hid (zero_iff h2)
      have H2 := Lib.hid h2
      clear h2
      have dl : t.toList = t.data.toList := ByteArray.toList_eq ..
      by_cases h0 : decVal t.data.toList = 0
      · have hz : (t.toList == [48]) = true := by
          rw [dl, HZ.out.2 h0]; rfl
        have HQ := Lib.hid (okP_zero (s := s) h0)
        clear h0 dl
        go_enter Tryz.func120, Tryz.ntmps120
        go_wp2_with fail
        refine (rnat_any s _ hs).mono ?_
        rintro e w2 ⟨rfl, rfl⟩
        rw [H1.out]
        have HX1 := Lib.hid (Boxes.one w (.cells #[.string s, .string t] 46))
        have HB1 := Lib.hid ((Below.refl _ w).alloc (Nat.le_refl _) (.cells #[.string s, .string t] 46))
        have c1 := HX1.out.cell 0 1 (b := w.heap.size) rfl rfl rfl
        go_wp2_with fail
        refine (rnat_any t _ ht).mono ?_
        rintro e w3 ⟨rfl, rfl⟩
        rw [H2.out]
        go_wp2
        go_ret
        exact ⟨by rw [okE_no HQ.out]; rfl, HB1.out⟩
      · have hz : (t.toList == [48]) = false := by
          rw [beq_eq_false_iff_ne, dl]
          intro hc
          refine h0 (HZ.out.1 ?_)
          rw [← str_eq t, hc]; rfl
        obtain ⟨ds, ls⟩ := rnok H1.out
        obtain ⟨dt, lt⟩ := rnok H2.out
        have HG : Hid ((Nat.gcd (decVal s.data.toList) (decVal t.data.toList) = 1 → okE s t = 0) ∧ (Nat.gcd (decVal s.data.toList) (decVal t.data.toList) ≠ 1 → okE s t = 2)) :=
          ⟨fun hg => okE_yes (okP_yes H1.out H2.out h0 hg), fun hg => okE_no (okP_gcd hg)⟩
        obtain ⟨n1, hn1⟩ : ∃ n, decVal s.data.toList = n := ⟨_, rfl⟩
        obtain ⟨d1, hd1⟩ : ∃ n, decVal t.data.toList = n := ⟨_, rfl⟩
        have HPS : Hid (∀ W, Calls Tryz.prog 119 #[.string s] W (PPost W n1)) := fun W => by rw [← hn1]; exact rparts_any s hs ds W
        have HPT : Hid (∀ W, Calls Tryz.prog 119 #[.string t] W (PPost W d1)) := fun W => by rw [← hd1]; exact rparts_any t ht dt W
        have hd0 : 0 < d1 := by omega
        rw [hn1] at ls HG
        rw [hd1] at lt HG
        clear h0 dl ds dt hn1 hd1
        go_enter Tryz.func120, Tryz.ntmps120
        go_wp2_with fail
        refine (rnat_any s _ hs).mono ?_
        rintro e w2 ⟨rfl, rfl⟩
        rw [H1.out]
        have HX1 := Lib.hid (Boxes.one w (.cells #[.string s, .string t] 46))
        have HB1 := Lib.hid ((Below.refl _ w).alloc (Nat.le_refl _) (.cells #[.string s, .string t] 46))
        have c1 := HX1.out.cell 0 1 (b := w.heap.size) rfl rfl rfl
        go_wp2_with fail
        refine (rnat_any t _ ht).mono ?_
        rintro e w3 ⟨rfl, rfl⟩
        rw [H2.out]
        have HX1d : Hid (Boxes w.heap.size [.cells #[.string s, .string t] 46] (w.alloc (.cells #[.string s, .string t] 46))) := HX1
        obtain ⟨w1, hw1⟩ : ∃ w1, w.alloc (.cells #[.string s, .string t] 46) = w1 := ⟨_, rfl⟩
        rw [hw1] at HX1 HB1 c1 ⊢
        clear hw1 HX1d c1
        have ka1 := HX1.out.cell 0 0 (b := w.heap.size) rfl rfl rfl
        have kb1 := HX1.out.cell 0 1 (b := w.heap.size) rfl rfl rfl
        go_wp2_with fail
        go_region_held3
          (fun w' => w'.cell? ⟨w.heap.size, 0, none⟩ = some (.string s) ∧ w'.cell? ⟨w.heap.size, 1, none⟩ = some (.string t))
          (first | exact ⟨ka1, kb1⟩ | exact ⟨ka2, kb2⟩ | exact ⟨ka3, kb3⟩ | exact ⟨ka4, kb4⟩)
          (first
            | (go_at_call_of 119 (Value.string s); refine (HPS.out _).mono ?_; rintro e w2 ⟨va, rfl, hv, hb⟩; obtain ⟨pa, ma, ca, rfl⟩ := hv.form; have HA := Lib.hid hv; have HX2 := Lib.hid (HX1.out.drew.below hb HX1.out.lt); have HB2 : Hid (Below w.heap.size w w2) := HB1.out.drew.trans (hb.mono HB1.out.size); have ka2 := HX2.out.cell 0 0 (b := w.heap.size) rfl rfl rfl; have kb2 := HX2.out.cell 0 1 (b := w.heap.size) rfl rfl rfl; clear hv hb)
            | (go_at_call_of 119 (Value.string t); refine (HPT.out _).mono ?_; rintro e w3 ⟨vb, rfl, hv, hb⟩; obtain ⟨pb, mb, cb, rfl⟩ := hv.form; have HC := Lib.hid hv; have HA3 := Lib.hid (HA.out.after hb (Nat.le_refl _)); have HX3 := Lib.hid (HX2.out.below hb HX2.out.lt); have HB3 : Hid (Below w.heap.size w w3) := HB2.out.trans (hb.mono HB2.out.size); have ka3 := HX3.out.cell 0 0 (b := w.heap.size) rfl rfl rfl; have kb3 := HX3.out.cell 0 1 (b := w.heap.size) rfl rfl rfl; clear hv hb)
            | (go_at_call 148; refine (rgcd_any HA3.out HC.out (by omega) (by omega)).mono ?_; rintro e w4 ⟨vg, rfl, hv, hb⟩; obtain ⟨pg, mg, cg, rfl⟩ := hv.form; have HGG := Lib.hid hv; have HX4 := Lib.hid (HX3.out.below hb HX3.out.lt); have HB4 : Hid (Below w.heap.size w w4) := HB3.out.trans (hb.mono HB3.out.size); have ka4 := HX4.out.cell 0 0 (b := w.heap.size) rfl rfl rfl; have kb4 := HX4.out.cell 0 1 (b := w.heap.size) rfl rfl rfl; clear hv hb))
        clear ka1 kb1
        have hgl : (limbs 10000 (Nat.gcd n1 d1)).length ≤ 1000000 := Nat.le_trans (limbs_length_mono (by omega) (Nat.gcd_le_right _ hd0)) (by omega)
        obtain ⟨g, hg⟩ : ∃ g, Nat.gcd n1 d1 = g := ⟨_, rfl⟩
        rw [hg] at hgl HG HGG
        go_wp2_with fail
        refine (rdigits_any HGG.out hgl).mono ?_
        rintro e w5 ⟨rfl, hb5⟩
        have HB5 := Lib.hid (HB4.out.trans (hb5.mono HB4.out.size))
        have h1 := one_text (g := g)
        obtain ⟨z, hz1⟩ : ∃ z, str (Lib.decDigits g) = z := ⟨_, rfl⟩
        rw [hz1] at h1 ⊢
        clear hb5 hz1 hg
        by_cases hg1 : g = 1
        · rw [decide_eq_true hg1] at h1
          have HG := Lib.hid (HG.out.1 hg1)
          clear hg1
          go_wp2
          go_ret
          exact ⟨by rw [HG.out]; rfl, HB5.out⟩
        · rw [decide_eq_false hg1] at h1
          have HG := Lib.hid (HG.out.2 hg1)
          clear hg1
          go_wp2
          go_ret
          exact ⟨by rw [HG.out]; rfl, HB5.out⟩

/-- The error of two fractions. -/
def bothE (s t u v : ByteArray) : Int := max (okE s t) (okE u v)
theorem bothE_no {s t u v : ByteArray} (h : (okP s t && okP u v) = false) : bothE s t u v = 2 := by
  unfold bothE okE
  cases h1 : okP s t <;> cases h2 : okP u v <;> first | rfl | (rw [h1, h2] at h; exact absurd h (by decide))
theorem bothE_yes {s t u v : ByteArray} (h : (okP s t && okP u v) = true) : bothE s t u v = 0 := by
  unfold bothE okE
  rw [Bool.and_eq_true] at h
  rw [h.1, h.2]; rfl
end Go.Proofs.YtcncdepjbhnknaaGreatDoor
/- The document's plus: the sum of two numbers. -/
namespace Go.Proofs.YtcncdepjbhnknaaGreatDoor
open Go.RowKit
set_option maxRecDepth 100000 in
set_option maxHeartbeats 4000000 in
theorem rplus_any {v1 v2 : Value} {n m : Nat} {w : World} (h1 : PNum w v1 n) (h2 : PNum w v2 m) (hl1 : (limbs 10000 n).length ≤ 1000000) (hl2 : (limbs 10000 m).length ≤ 1000000) :
    Calls Tryz.prog 123 #[v1, v2] w (PPost w (n + m)) := by
  obtain ⟨i0, hi, hz0, hz1, hz2⟩ := info_parts info_int
  obtain ⟨p1, c1, rfl, _, _, hp1⟩ := h1.1
  obtain ⟨p2, c2, rfl, _, _, hp2⟩ := h2.1
  obtain ⟨xs, hxs⟩ : ∃ xs, limbs 10000 n = xs := ⟨_, rfl⟩
  obtain ⟨ys, hys⟩ : ∃ ys, limbs 10000 m = ys := ⟨_, rfl⟩
  have HXS : Hid (limbs 10000 n = xs ∧ limbs 10000 m = ys) := ⟨hxs, hys⟩
  rw [hxs] at hl1 hp1 ⊢
  rw [hys] at hl2 hp2 ⊢
  have HX : Hid (∀ x ∈ xs, x < 10000) := by rw [← hxs]; exact limbs_lt (by omega) n
  have HY : Hid (∀ x ∈ ys, x < 10000) := by rw [← hys]; exact limbs_lt (by omega) m
  have HP1 := Lib.hid hp1
  have HP2 := Lib.hid hp2
  clear hxs hys hp1 hp2
  go_enter Tryz.func123, Tryz.ntmps123
  go_wp2
  go_loopw [5, 6, 7] (fun vo vc vi wr => ∃ (k c : Nat) (out : List Nat), vi = .int .i64 k ∧ vc = .int .i64 c ∧ k ≤ 1000001 ∧ c ≤ 1 ∧ Hid (SumInv 10000 xs ys k out c) ∧ Hid (Grow .i64 3 wr w.heap.size vo out) ∧ Hid (out.length = k) ∧ Hid (Below w.heap.size w wr)) (fun _ vc vi _ => 2 * 1000002 - 2 * (intOf vi).toNat + (intOf vc).toNat)
  case atStart => exact ⟨0, 0, [], rfl, rfl, by omega, by omega, SumInv.start _ _ _, Grow.nil, rfl, Below.refl _ _⟩
  case round =>
    obtain ⟨k, c, out, rfl, rfl, hk6, hc1, HI, HO, HLEN, HB⟩ := hrel
    obtain ⟨po, no, co, rfl⟩ : ∃ p n c, u5 = .slice p n c := by obtain ⟨q, c, h⟩ := HO.out.form; exact ⟨_, _, _, h⟩
    by_cases hgo : k < xs.length ∨ k < ys.length ∨ 0 < c
    · have hm1 : k + 1 ≤ maxLen := by unfold maxLen; omega
      have hm2 : (k + 1) * 8 ≤ 140737488355328 := by omega
      have HGO : Hid (k < (limbs 10000 n).length ∨ k < (limbs 10000 m).length ∨ 0 < c) := by rw [HXS.out.1, HXS.out.2]; exact hgo
      have HST : Hid (∀ x, x = xs.getD k 0 + c + ys.getD k 0 → SumInv 10000 xs ys (k + 1) (out ++ [x % 10000]) (x / 10000)) := fun x hx => by
        have h1 := HI.out
        have h2 := HGO.out
        obtain ⟨e1, e2⟩ := HXS.out
        rw [← e1, ← e2] at h1 hx ⊢
        exact h1.step (by omega) hx h2
      by_cases hlt1 : k < xs.length
      · obtain ⟨b1, o1, rfl, hb1, a1⟩ := HP1.out (List.ne_nil_of_length_pos (by omega))
        obtain ⟨x, hx⟩ : ∃ x, xs.getD k 0 = x := ⟨_, rfl⟩
        have hxl : x < 10000 := by rw [← hx]; exact getD_lt (by omega) HX.out k
        have cx : wr.cell? ⟨b1, o1 + k, none⟩ = some (.int .i64 (x : Nat)) := (HB.out.cell (p := ⟨b1, o1 + k, none⟩) hb1).trans (a1.getD hlt1 hx)
        have Hx := Lib.hid hx
        clear hx a1 hgo
        by_cases hlt2 : k < ys.length
        · obtain ⟨b2, o2, rfl, hb2, a2⟩ := HP2.out (List.ne_nil_of_length_pos (by omega))
          obtain ⟨y, hy⟩ : ∃ y, ys.getD k 0 = y := ⟨_, rfl⟩
          have hyl : y < 10000 := by rw [← hy]; exact getD_lt (by omega) HY.out k
          have cy : wr.cell? ⟨b2, o2 + k, none⟩ = some (.int .i64 (y : Nat)) := (HB.out.cell (p := ⟨b2, o2 + k, none⟩) hb2).trans (a2.getD hlt2 hy)
          have Hy := Lib.hid hy
          clear hy a2
          have HS := Lib.hid (HST.out (x + c + y) (by first | (rw [Hx.out, Hy.out]; done) | (rw [Hx.out, Hy.out]; omega)))
          have e1 : ((c : Int) + x + y) % 10000 = (((x + c + y) % 10000 : Nat) : Int) := by omega
          have e2 : ((c : Int) + x + y) / 10000 = (((x + c + y) / 10000 : Nat) : Int) := by omega
          have hq1 : (x + c + y) / 10000 ≤ 1 := by omega
          have E1 := Lib.hid e1
          have E2 := Lib.hid e2
          have HQ : Hid (k + 1 ≤ 1000001) := by
            have h1 := HS.out
            obtain ⟨e1, e2⟩ := HXS.out
            rw [← e1, ← e2] at h1
            exact h1.bound (by rw [e1]; exact hl1) (by rw [e2]; exact hl2)
          have HMS : Hid ((x + c + y) / 10000 ≤ 1) := hq1
          clear e1 e2 hq1
          have hown : wr.ownsRow w.heap.size 3 1 (.slice po no co) k ((out).map fun x => Value.int .i64 (x : Nat)) := by
            have := HO.out; unfold Grow at this; rwa [HLEN.out] at this
          have hsz := HB.out.size
          have hownA := hown.alloc (.cells #[.int .i64 (((c : Int) + x + y) % 10000)] 3)
          have hm3 : w.heap.size ≤ (wr.alloc (.cells #[.int .i64 (((c : Int) + x + y) % 10000)] 3)).heap.size := by simp; omega
          go_wp2_with (at_builtin; go_loud (refine wpList_append_own _ rfl _ _ 142 rfl w.heap.size 3 i0 (.int .i64 0) 1 8 Tryz.underlying142 hi hz0 hz1 hz2 rfl (by decide) _ k _ rfl hownA ⟨wr.heap.size, 0, none⟩ 1 1 [.int .i64 (((c : Int) + x + y) % 10000)] rfl rfl (cell_one_new _ _ _) (by simp [Value.oneCell']) hm1 hm2 hm3 ?_); intro v' w1 hown1 hgrow1 _)
          have HG : Hid (Grow .i64 3 w1 w.heap.size v' (out ++ [(x + c + y) % 10000])) := Grow.snoc HLEN.out E1.out hown1
          have HB1 : Hid (Below w.heap.size w w1) := (HB.out.alloc hsz _).grown hgrow1 hm3 (fun z hz => (World.ownsRow.lt hownA z hz).1)
          clear hown hownA hown1 hgrow1
          go_roundw
          case rel => exact ⟨k + 1, _, _, by go_num, by rw [E2.out], HQ.out, HMS.out, HS, HG, by show _ = _; rw [List.length_append, HLEN.out]; rfl, HB1⟩
          case measure => rw [E2.out]; have := HMS.out; have := HQ.out; simp [intOf]; omega
        · have Hy : Hid (ys.getD k 0 = 0) := by show _ = _; simp [List.getD, hlt2]
          have HS := Lib.hid (HST.out (x + c) (by first | (rw [Hx.out, Hy.out]; done) | (rw [Hx.out, Hy.out]; omega)))
          have e1 : ((c : Int) + x) % 10000 = (((x + c) % 10000 : Nat) : Int) := by omega
          have e2 : ((c : Int) + x) / 10000 = (((x + c) / 10000 : Nat) : Int) := by omega
          have hq1 : (x + c) / 10000 ≤ 1 := by omega
          have E1 := Lib.hid e1
          have E2 := Lib.hid e2
          have HQ : Hid (k + 1 ≤ 1000001) := by
            have h1 := HS.out
            obtain ⟨e1, e2⟩ := HXS.out
            rw [← e1, ← e2] at h1
            exact h1.bound (by rw [e1]; exact hl1) (by rw [e2]; exact hl2)
          have HMS : Hid ((x + c) / 10000 ≤ 1) := hq1
          clear e1 e2 hq1
          have hown : wr.ownsRow w.heap.size 3 1 (.slice po no co) k ((out).map fun x => Value.int .i64 (x : Nat)) := by
            have := HO.out; unfold Grow at this; rwa [HLEN.out] at this
          have hsz := HB.out.size
          have hownA := hown.alloc (.cells #[.int .i64 (((c : Int) + x) % 10000)] 3)
          have hm3 : w.heap.size ≤ (wr.alloc (.cells #[.int .i64 (((c : Int) + x) % 10000)] 3)).heap.size := by simp; omega
          go_wp2_with (at_builtin; go_loud (refine wpList_append_own _ rfl _ _ 142 rfl w.heap.size 3 i0 (.int .i64 0) 1 8 Tryz.underlying142 hi hz0 hz1 hz2 rfl (by decide) _ k _ rfl hownA ⟨wr.heap.size, 0, none⟩ 1 1 [.int .i64 (((c : Int) + x) % 10000)] rfl rfl (cell_one_new _ _ _) (by simp [Value.oneCell']) hm1 hm2 hm3 ?_); intro v' w1 hown1 hgrow1 _)
          have HG : Hid (Grow .i64 3 w1 w.heap.size v' (out ++ [(x + c) % 10000])) := Grow.snoc HLEN.out E1.out hown1
          have HB1 : Hid (Below w.heap.size w w1) := (HB.out.alloc hsz _).grown hgrow1 hm3 (fun z hz => (World.ownsRow.lt hownA z hz).1)
          clear hown hownA hown1 hgrow1
          go_roundw
          case rel => exact ⟨k + 1, _, _, by go_num, by rw [E2.out], HQ.out, HMS.out, HS, HG, by show _ = _; rw [List.length_append, HLEN.out]; rfl, HB1⟩
          case measure => rw [E2.out]; have := HMS.out; have := HQ.out; simp [intOf]; omega
      · have Hx : Hid (xs.getD k 0 = 0) := by show _ = _; simp [List.getD, hlt1]
        by_cases hlt2 : k < ys.length
        · obtain ⟨b2, o2, rfl, hb2, a2⟩ := HP2.out (List.ne_nil_of_length_pos (by omega))
          obtain ⟨y, hy⟩ : ∃ y, ys.getD k 0 = y := ⟨_, rfl⟩
          have hyl : y < 10000 := by rw [← hy]; exact getD_lt (by omega) HY.out k
          have cy : wr.cell? ⟨b2, o2 + k, none⟩ = some (.int .i64 (y : Nat)) := (HB.out.cell (p := ⟨b2, o2 + k, none⟩) hb2).trans (a2.getD hlt2 hy)
          have Hy := Lib.hid hy
          clear hy a2 hgo
          have HS := Lib.hid (HST.out (c + y) (by first | (rw [Hx.out, Hy.out]; done) | (rw [Hx.out, Hy.out]; omega)))
          have e1 : ((c : Int) + y) % 10000 = (((c + y) % 10000 : Nat) : Int) := by omega
          have e2 : ((c : Int) + y) / 10000 = (((c + y) / 10000 : Nat) : Int) := by omega
          have hq1 : (c + y) / 10000 ≤ 1 := by omega
          have E1 := Lib.hid e1
          have E2 := Lib.hid e2
          have HQ : Hid (k + 1 ≤ 1000001) := by
            have h1 := HS.out
            obtain ⟨e1, e2⟩ := HXS.out
            rw [← e1, ← e2] at h1
            exact h1.bound (by rw [e1]; exact hl1) (by rw [e2]; exact hl2)
          have HMS : Hid ((c + y) / 10000 ≤ 1) := hq1
          clear e1 e2 hq1
          have hown : wr.ownsRow w.heap.size 3 1 (.slice po no co) k ((out).map fun x => Value.int .i64 (x : Nat)) := by
            have := HO.out; unfold Grow at this; rwa [HLEN.out] at this
          have hsz := HB.out.size
          have hownA := hown.alloc (.cells #[.int .i64 (((c : Int) + y) % 10000)] 3)
          have hm3 : w.heap.size ≤ (wr.alloc (.cells #[.int .i64 (((c : Int) + y) % 10000)] 3)).heap.size := by simp; omega
          go_wp2_with (at_builtin; go_loud (refine wpList_append_own _ rfl _ _ 142 rfl w.heap.size 3 i0 (.int .i64 0) 1 8 Tryz.underlying142 hi hz0 hz1 hz2 rfl (by decide) _ k _ rfl hownA ⟨wr.heap.size, 0, none⟩ 1 1 [.int .i64 (((c : Int) + y) % 10000)] rfl rfl (cell_one_new _ _ _) (by simp [Value.oneCell']) hm1 hm2 hm3 ?_); intro v' w1 hown1 hgrow1 _)
          have HG : Hid (Grow .i64 3 w1 w.heap.size v' (out ++ [(c + y) % 10000])) := Grow.snoc HLEN.out E1.out hown1
          have HB1 : Hid (Below w.heap.size w w1) := (HB.out.alloc hsz _).grown hgrow1 hm3 (fun z hz => (World.ownsRow.lt hownA z hz).1)
          clear hown hownA hown1 hgrow1
          go_roundw
          case rel => exact ⟨k + 1, _, _, by go_num, by rw [E2.out], HQ.out, HMS.out, HS, HG, by show _ = _; rw [List.length_append, HLEN.out]; rfl, HB1⟩
          case measure => rw [E2.out]; have := HMS.out; have := HQ.out; simp [intOf]; omega
        · have Hy : Hid (ys.getD k 0 = 0) := by show _ = _; simp [List.getD, hlt2]
          have hc0 : (0 : Int) < c := by omega
          clear hgo
          have HS := Lib.hid (HST.out (c) (by first | (rw [Hx.out, Hy.out]; done) | (rw [Hx.out, Hy.out]; omega)))
          have e1 : ((c : Int)) % 10000 = (((c) % 10000 : Nat) : Int) := by omega
          have e2 : ((c : Int)) / 10000 = (((c) / 10000 : Nat) : Int) := by omega
          have hq1 : (c) / 10000 ≤ 1 := by omega
          have E1 := Lib.hid e1
          have E2 := Lib.hid e2
          have HQ : Hid (k + 1 ≤ 1000001) := by
            have h1 := HS.out
            obtain ⟨e1, e2⟩ := HXS.out
            rw [← e1, ← e2] at h1
            exact h1.bound (by rw [e1]; exact hl1) (by rw [e2]; exact hl2)
          have HMS : Hid ((c) / 10000 ≤ 1) := hq1
          clear e1 e2 hq1
          have hown : wr.ownsRow w.heap.size 3 1 (.slice po no co) k ((out).map fun x => Value.int .i64 (x : Nat)) := by
            have := HO.out; unfold Grow at this; rwa [HLEN.out] at this
          have hsz := HB.out.size
          have hownA := hown.alloc (.cells #[.int .i64 (((c : Int)) % 10000)] 3)
          have hm3 : w.heap.size ≤ (wr.alloc (.cells #[.int .i64 (((c : Int)) % 10000)] 3)).heap.size := by simp; omega
          go_wp2_with (at_builtin; go_loud (refine wpList_append_own _ rfl _ _ 142 rfl w.heap.size 3 i0 (.int .i64 0) 1 8 Tryz.underlying142 hi hz0 hz1 hz2 rfl (by decide) _ k _ rfl hownA ⟨wr.heap.size, 0, none⟩ 1 1 [.int .i64 (((c : Int)) % 10000)] rfl rfl (cell_one_new _ _ _) (by simp [Value.oneCell']) hm1 hm2 hm3 ?_); intro v' w1 hown1 hgrow1 _)
          have HG : Hid (Grow .i64 3 w1 w.heap.size v' (out ++ [(c) % 10000])) := Grow.snoc HLEN.out E1.out hown1
          have HB1 : Hid (Below w.heap.size w w1) := (HB.out.alloc hsz _).grown hgrow1 hm3 (fun z hz => (World.ownsRow.lt hownA z hz).1)
          clear hown hownA hown1 hgrow1
          go_roundw
          case rel => exact ⟨k + 1, _, _, by go_num, by rw [E2.out], HQ.out, HMS.out, HS, HG, by show _ = _; rw [List.length_append, HLEN.out]; rfl, HB1⟩
          case measure => rw [E2.out]; have := HMS.out; have := HQ.out; simp [intOf]; omega
    · have hc0 : c = 0 := by omega
      subst hc0
      have hn1 : ¬ (k : Int) < xs.length := by omega
      have hn2 : ¬ (k : Int) < ys.length := by omega
      have HD : Hid (out = limbs 10000 (n + m)) := by
        have h1 := HI.out
        obtain ⟨e1, e2⟩ := HXS.out
        rw [← e1, ← e2] at h1
        exact h1.done (by omega) (by rw [e1]; omega) (by rw [e2]; omega)
      clear hgo
      go_wp2
      go_ret
      refine ⟨_, rfl, ?_, HB.out⟩
      have := HO.out.nums
      rw [HD.out] at this
      exact ⟨this, HO.out.pform⟩
end Go.Proofs.YtcncdepjbhnknaaGreatDoor
