/- The parts RInt, RInt2, CoverM, RHalv, LawCurves, LawCurvesLift of a proof, put together by program (merge6.py). -/
import Derived.Test.YtcncdepjbhnknaaGreatDoorJ03
import Derived.Test.YtcncdepjbhnknaaGreatDoorH12
import Derived.Test.YtcncdepjbhnknaaGreatDoorJ02
import Derived.Test.YtcncdepjbhnknaaGreatDoorR01
import Derived.Test.YtcncdepjbhnknaaGreatDoorH21
import Derived.Test.YtcncdepjbhnknaaGreatDoorJ01
import Derived.Test.YtcncdepjbhnknaaGreatDoorR02
import Derived.Test.YtcncdepjbhnknaaGreatDoorH22
set_option linter.unusedVariables false
set_option linter.unusedSimpArgs false
/- The document's CheckNat, Make, Of, Ratio, Int. -/
namespace Go.Proofs.YtcncdepjbhnknaaGreatDoor
open Go.RowKit Go.Shelf



set_option maxRecDepth 100000 in
set_option maxHeartbeats 4000000 in
theorem rmake_any (s t : ByteArray) (w : World) (hs : s.size ≤ 1000000) (ht : t.size ≤ 1000000) :
    Calls Tryz.prog 99 #[.string s, .string t] w (PartPost (Made s t) w) := by
  cases h1 : natOk s.data.toList
  · have H1 := Lib.hid h1
    obtain ⟨b2, hb2⟩ : ∃ b, natOk t.data.toList = b := ⟨_, rfl⟩
    have H2 := Lib.hid hb2
    clear h1 hb2
    go_enter Tryz.func99, Tryz.ntmps99
    go_wp2_with fail
    obtain ⟨w1, hw1⟩ : ∃ w1, w.alloc (.cells #[.string ⟨#[]⟩, .string ⟨#[]⟩] 46) = w1 := ⟨_, rfl⟩
    rw [hw1]
    have HX1 : Hid (Boxes w.heap.size [.cells #[.string ⟨#[]⟩, .string ⟨#[]⟩] 46] w1) := by rw [← hw1]; exact Boxes.one w _
    have HB1 : Hid (Below w.heap.size w w1) := by rw [← hw1]; exact (Below.refl _ w).alloc (Nat.le_refl _) _
    clear hw1
    refine (rnat_any s _ hs).mono ?_
    rintro e w2 ⟨rfl, rfl⟩
    rw [H1.out]
    go_wp2_with fail
    refine (rnat_any t _ ht).mono ?_
    rintro e w3 ⟨rfl, rfl⟩
    rw [H2.out]
    have r0 := HX1.out.cell 0 0 (b := w.heap.size) rfl rfl rfl
    have r1 := HX1.out.cell 0 1 (b := w.heap.size) rfl rfl rfl
    have f0 := HX1.out.free 0 0 (b := w.heap.size) rfl rfl
    have f1 := HX1.out.free 0 1 (b := w.heap.size) rfl rfl
    go_wp2
    have q := two_put_cells (HX1.out.block 0 (b := w.heap.size) rfl rfl) (.string ⟨#[]⟩) (.string ⟨#[]⟩)
    have HBQ := Lib.hid (two_put_below HB1.out (b := w.heap.size) (by omega) (.string ⟨#[]⟩) (.string ⟨#[]⟩))
    obtain ⟨w9, hw9⟩ : ∃ w9, (w1.setCell ⟨w.heap.size, 0, none⟩ (.string ⟨#[]⟩)).setCell ⟨w.heap.size, 1, none⟩ (.string ⟨#[]⟩) = w9 := ⟨_, rfl⟩
    rw [hw9] at q HBQ
    obtain ⟨q0, q1⟩ := q
    rw [hw9]
    clear r0 r1 f0 f1 hw9
    go_wp2
    refine bodyPost_ret (v := .tuple #[.agg #[.string ⟨#[]⟩, .string ⟨#[]⟩], .int .i64 2]) (by simp [results, Tryz.f99, go_sem, q0, q1]) rfl ⟨_, _, _, rfl, ?_, HBQ.out⟩
    exact .inl ⟨by rw [H1.out]; rfl, rfl, rfl, rfl⟩
  · have H1 := Lib.hid h1
    clear h1
    cases h2 : natOk t.data.toList
    · have H2 := Lib.hid h2
      clear h2
      go_enter Tryz.func99, Tryz.ntmps99
      go_wp2_with fail
      obtain ⟨w1, hw1⟩ : ∃ w1, w.alloc (.cells #[.string ⟨#[]⟩, .string ⟨#[]⟩] 46) = w1 := ⟨_, rfl⟩
      rw [hw1]
      have HX1 : Hid (Boxes w.heap.size [.cells #[.string ⟨#[]⟩, .string ⟨#[]⟩] 46] w1) := by rw [← hw1]; exact Boxes.one w _
      have HB1 : Hid (Below w.heap.size w w1) := by rw [← hw1]; exact (Below.refl _ w).alloc (Nat.le_refl _) _
      clear hw1
      refine (rnat_any s _ hs).mono ?_
      rintro e w2 ⟨rfl, rfl⟩
      rw [H1.out]
      go_wp2_with fail
      refine (rnat_any t _ ht).mono ?_
      rintro e w3 ⟨rfl, rfl⟩
      rw [H2.out]
      have r0 := HX1.out.cell 0 0 (b := w.heap.size) rfl rfl rfl
      have r1 := HX1.out.cell 0 1 (b := w.heap.size) rfl rfl rfl
      have f0 := HX1.out.free 0 0 (b := w.heap.size) rfl rfl
      have f1 := HX1.out.free 0 1 (b := w.heap.size) rfl rfl
      go_wp2
      have q := two_put_cells (HX1.out.block 0 (b := w.heap.size) rfl rfl) (.string ⟨#[]⟩) (.string ⟨#[]⟩)
      have HBQ := Lib.hid (two_put_below HB1.out (b := w.heap.size) (by omega) (.string ⟨#[]⟩) (.string ⟨#[]⟩))
      obtain ⟨w9, hw9⟩ : ∃ w9, (w1.setCell ⟨w.heap.size, 0, none⟩ (.string ⟨#[]⟩)).setCell ⟨w.heap.size, 1, none⟩ (.string ⟨#[]⟩) = w9 := ⟨_, rfl⟩
      rw [hw9] at q HBQ
      obtain ⟨q0, q1⟩ := q
      rw [hw9]
      clear r0 r1 f0 f1 hw9
      go_wp2
      refine bodyPost_ret (v := .tuple #[.agg #[.string ⟨#[]⟩, .string ⟨#[]⟩], .int .i64 2]) (by simp [results, Tryz.f99, go_sem, q0, q1]) rfl ⟨_, _, _, rfl, ?_, HBQ.out⟩
      exact .inl ⟨by rw [H2.out, Bool.and_false], rfl, rfl, rfl⟩
    · have HZ := Lib.hid (zero_iff h2)
      have H2 := Lib.hid h2
      clear h2
      have dl : t.toList = t.data.toList := ByteArray.toList_eq ..
      by_cases h0 : decVal t.data.toList = 0
      · have hz : (t.toList == [48]) = true := by
          rw [dl, HZ.out.2 h0]; rfl
        have H0 := Lib.hid h0
        clear h0 dl
        go_enter Tryz.func99, Tryz.ntmps99
        go_wp2_with fail
        obtain ⟨w1, hw1⟩ : ∃ w1, w.alloc (.cells #[.string ⟨#[]⟩, .string ⟨#[]⟩] 46) = w1 := ⟨_, rfl⟩
        rw [hw1]
        have HX1 : Hid (Boxes w.heap.size [.cells #[.string ⟨#[]⟩, .string ⟨#[]⟩] 46] w1) := by rw [← hw1]; exact Boxes.one w _
        have HB1 : Hid (Below w.heap.size w w1) := by rw [← hw1]; exact (Below.refl _ w).alloc (Nat.le_refl _) _
        clear hw1
        refine (rnat_any s _ hs).mono ?_
        rintro e w2 ⟨rfl, rfl⟩
        rw [H1.out]
        go_wp2_with fail
        refine (rnat_any t _ ht).mono ?_
        rintro e w3 ⟨rfl, rfl⟩
        rw [H2.out]
        have r0 := HX1.out.cell 0 0 (b := w.heap.size) rfl rfl rfl
        have r1 := HX1.out.cell 0 1 (b := w.heap.size) rfl rfl rfl
        have f0 := HX1.out.free 0 0 (b := w.heap.size) rfl rfl
        have f1 := HX1.out.free 0 1 (b := w.heap.size) rfl rfl
        go_wp2
        have q := two_put_cells (HX1.out.block 0 (b := w.heap.size) rfl rfl) (.string ⟨#[]⟩) (.string ⟨#[]⟩)
        have HBQ := Lib.hid (two_put_below HB1.out (b := w.heap.size) (by omega) (.string ⟨#[]⟩) (.string ⟨#[]⟩))
        obtain ⟨w9, hw9⟩ : ∃ w9, (w1.setCell ⟨w.heap.size, 0, none⟩ (.string ⟨#[]⟩)).setCell ⟨w.heap.size, 1, none⟩ (.string ⟨#[]⟩) = w9 := ⟨_, rfl⟩
        rw [hw9] at q HBQ
        obtain ⟨q0, q1⟩ := q
        rw [hw9]
        clear r0 r1 f0 f1 hw9
        go_wp2
        refine bodyPost_ret (v := .tuple #[.agg #[.string ⟨#[]⟩, .string ⟨#[]⟩], .int .i64 10]) (by simp [results, Tryz.f99, go_sem, q0, q1]) rfl ⟨_, _, _, rfl, ?_, HBQ.out⟩
        exact .inr (.inl ⟨by rw [H1.out, H2.out]; rfl, H0.out, rfl, rfl, rfl⟩)
      · have hz : (t.toList == [48]) = false := by
          rw [beq_eq_false_iff_ne, dl]
          intro hc
          refine h0 (HZ.out.1 ?_)
          rw [← str_eq t, hc]; rfl
        have H0 := Lib.hid h0
        obtain ⟨ds, ls⟩ := rnok H1.out
        obtain ⟨dt, lt⟩ := rnok H2.out
        have HDS := Lib.hid ds
        have HDT := Lib.hid dt
        have HL := Lib.hid (And.intro ls lt)
        clear h0 dl ds ls dt lt
        go_enter Tryz.func99, Tryz.ntmps99
        go_wp2_with fail
        obtain ⟨w1, hw1⟩ : ∃ w1, w.alloc (.cells #[.string ⟨#[]⟩, .string ⟨#[]⟩] 46) = w1 := ⟨_, rfl⟩
        rw [hw1]
        have HX1 : Hid (Boxes w.heap.size [.cells #[.string ⟨#[]⟩, .string ⟨#[]⟩] 46] w1) := by rw [← hw1]; exact Boxes.one w _
        have HB1 : Hid (Below w.heap.size w w1) := by rw [← hw1]; exact (Below.refl _ w).alloc (Nat.le_refl _) _
        clear hw1
        refine (rnat_any s _ hs).mono ?_
        rintro e w2 ⟨rfl, rfl⟩
        rw [H1.out]
        go_wp2_with fail
        refine (rnat_any t _ ht).mono ?_
        rintro e w3 ⟨rfl, rfl⟩
        rw [H2.out]
        go_wp2_with fail
        refine (rparts_any s hs HDS.out _).mono ?_
        rintro e w4 ⟨vn, rfl, hN, hb4⟩
        obtain ⟨pn, ln, cn, rfl⟩ := hN.form
        have HN4 := Lib.hid hN
        have HX4 := Lib.hid (HX1.out.below hb4 HX1.out.lt)
        have HB4 := Lib.hid (HB1.out.trans (hb4.mono HB1.out.size))
        clear hN hb4
        go_wp2_with fail
        refine (rparts_any t ht HDT.out _).mono ?_
        rintro e w5 ⟨vd, rfl, hD, hb5⟩
        obtain ⟨pd, ld, cd, rfl⟩ := hD.form
        have HD5 := Lib.hid hD
        have HN5 := Lib.hid (HN4.out.after hb5 (Nat.le_refl _))
        have HX5 := Lib.hid (HX4.out.below hb5 HX4.out.lt)
        have HB5 := Lib.hid (HB4.out.trans (hb5.mono HB4.out.size))
        clear hD hb5
        go_wp2_with fail
        refine (made_any HN5.out HD5.out (Nat.le_trans HL.out.1 (by decide)) (Nat.le_trans HL.out.2 (by decide)) (Nat.pos_of_ne_zero H0.out)).mono ?_
        rintro e w6 ⟨x, y, n, rfl, hR, hb6⟩
        have HR := Lib.hid hR
        have HX6 := Lib.hid (HX5.out.below hb6 HX5.out.lt)
        have HB6 := Lib.hid (HB5.out.trans (hb6.mono HB5.out.size))
        clear hR hb6
        have r0 := HX6.out.cell 0 0 (b := w.heap.size) rfl rfl rfl
        have r1 := HX6.out.cell 0 1 (b := w.heap.size) rfl rfl rfl
        have f0 := HX6.out.free 0 0 (b := w.heap.size) rfl rfl
        have f1 := HX6.out.free 0 1 (b := w.heap.size) rfl rfl
        go_wp2
        have q := two_put_cells (HX6.out.block 0 (b := w.heap.size) rfl rfl) (.string x) (.string y)
        have HBQ := Lib.hid (two_put_below HB6.out (b := w.heap.size) (by omega) (.string x) (.string y))
        obtain ⟨w9, hw9⟩ : ∃ w9, (w6.setCell ⟨w.heap.size, 0, none⟩ (.string x)).setCell ⟨w.heap.size, 1, none⟩ (.string y) = w9 := ⟨_, rfl⟩
        rw [hw9] at q HBQ
        obtain ⟨q0, q1⟩ := q
        rw [hw9]
        clear r0 r1 f0 f1 hw9
        go_wp2
        refine bodyPost_ret (v := .tuple #[.agg #[.string x, .string y], .int .i64 n]) (by simp [results, Tryz.f99, go_sem, q0, q1]) rfl ⟨_, _, _, rfl, ?_, HBQ.out⟩
        exact .inr (.inr ⟨by rw [H1.out, H2.out]; rfl, Nat.pos_of_ne_zero H0.out, HR.out⟩)

set_option maxRecDepth 100000 in
set_option maxHeartbeats 4000000 in
theorem rof_any (n : Int) (h0 : -9223372036854775808 ≤ n) (h1 : n ≤ 9223372036854775807) (w : World) :
    Calls Tryz.prog 98 #[.int .i64 n] w (OfPost n w) := by
  obtain ⟨i0, hi, hz0, hz1, hz2⟩ := info_parts info_int
  by_cases hn : n < 0
  · go_enter Tryz.func98, Tryz.ntmps98
    go_wp2
    go_ret2
    exact ⟨_, _, rfl, .inl ⟨hn, rfl, rfl⟩, Below.refl _ _⟩
  · obtain ⟨m, rfl⟩ : ∃ m : Nat, n = m := ⟨n.toNat, by omega⟩
    have hl6 : (limbs 10000 m).length ≤ 6 := limbs_length_le (by omega) (by omega)
    have HL6 := Lib.hid hl6
    clear h0 hl6
    go_enter Tryz.func98, Tryz.ntmps98
    go_wp2
    go_loopw [0, 4] (fun vn vo wr => ∃ (j k : Nat) (out : List Nat), vn = .int .i64 j ∧ j ≤ 9223372036854775807 ∧ k ≤ 6 ∧ Hid (limbs 10000 m = out ++ limbs 10000 j) ∧ Hid (Grow .i64 3 wr w.heap.size vo out) ∧ Hid (out.length = k) ∧ Hid (Below w.heap.size w wr)) (fun vn _ _ => (intOf vn).toNat)
    case atStart => exact ⟨m, 0, [], rfl, by omega, by omega, by show _ = _; simp, Grow.nil, rfl, Below.refl _ _⟩
    case round =>
      obtain ⟨j, k, out, rfl, hj, hk6, HI, HO, HLEN, HB⟩ := hrel
      obtain ⟨po, no, co, rfl⟩ : ∃ p n c, u4 = .slice p n c := by obtain ⟨q, c, h⟩ := HO.out.form; exact ⟨_, _, _, h⟩
      by_cases hgo : 0 < j
      · have hgo' : (0 : Int) < j := by omega
        have hm1 : k + 1 ≤ maxLen := by unfold maxLen; omega
        have hm2 : (k + 1) * 8 ≤ 140737488355328 := by omega
        have HI2 : Hid (limbs 10000 m = (out ++ [j % 10000]) ++ limbs 10000 (j / 10000)) := by
          show _ = _
          rw [HI.out, limbs_pos (by omega) hgo]; simp
        have HK7 : Hid (k + 1 ≤ 6) := by
          have h2 := congrArg List.length HI2.out
          have h3 := HL6.out
          have h4 := HLEN.out
          simp at h2
          show _ ≤ _
          omega
        have E1 : Hid ((j : Int) % 10000 = ((j % 10000 : Nat) : Int)) := by show _ = _; omega
        have E2 : Hid ((j : Int) / 10000 = ((j / 10000 : Nat) : Int)) := by show _ = _; omega
        have HJ : Hid (j / 10000 < j ∧ j / 10000 ≤ 9223372036854775807) := ⟨by omega, by omega⟩
        clear hgo
        have hown : wr.ownsRow w.heap.size 3 1 (.slice po no co) k ((out).map fun x => Value.int .i64 (x : Nat)) := by
          have := HO.out; unfold Grow at this; rwa [HLEN.out] at this
        have hsz := HB.out.size
        have hownA := hown.alloc (.cells #[.int .i64 ((j : Int) % 10000)] 3)
        have hm3 : w.heap.size ≤ (wr.alloc (.cells #[.int .i64 ((j : Int) % 10000)] 3)).heap.size := by simp; omega
        go_wp2_with (at_builtin; go_loud (refine wpList_append_own _ rfl _ _ 142 rfl w.heap.size 3 i0 (.int .i64 0) 1 8 Tryz.underlying142 hi hz0 hz1 hz2 rfl (by decide) _ k _ rfl hownA ⟨wr.heap.size, 0, none⟩ 1 1 [.int .i64 ((j : Int) % 10000)] rfl rfl (cell_one_new _ _ _) (by simp [Value.oneCell']) hm1 hm2 hm3 ?_); intro v' w1 hown1 hgrow1 _)
        have HG : Hid (Grow .i64 3 w1 w.heap.size v' (out ++ [j % 10000])) := Grow.snoc HLEN.out E1.out hown1
        have HB1 : Hid (Below w.heap.size w w1) := (HB.out.alloc hsz _).grown hgrow1 hm3 (fun z hz => (World.ownsRow.lt hownA z hz).1)
        clear hown hownA hown1 hgrow1
        go_roundw
        case rel => exact ⟨j / 10000, k + 1, _, by rw [E2.out], HJ.out.2, HK7.out, HI2, HG, by show _ = _; rw [List.length_append, HLEN.out]; rfl, HB1⟩
        case measure => rw [E2.out]; have := HJ.out; simp [intOf]; omega
      · obtain rfl : j = 0 := by omega
        have HE : Hid (out = limbs 10000 m) := by show _ = _; rw [HI.out, limbs_zero]; simp
        have HP : Hid (PNum wr (.slice po no co) m) := by
          have := HO.out.nums
          rw [HE.out] at this
          exact ⟨this, HO.out.pform⟩
        clear hgo
        go_wp2_with fail
        refine (rnatOf_any HP.out (Nat.le_trans HL6.out (by decide))).mono ?_
        rintro e w5 ⟨rfl, hb5⟩
        have HB5 := Lib.hid (HB.out.trans (hb5.mono HB.out.size))
        obtain ⟨s, hs⟩ : ∃ s, str (Lib.decDigits m) = s := ⟨_, rfl⟩
        rw [hs]
        have HS := Lib.hid hs
        clear hb5 hs
        go_wp2
        go_ret2
        exact ⟨_, _, rfl, .inr ⟨by omega, by rw [← HS.out]; rfl, rfl⟩, HB5.out⟩
end Go.Proofs.YtcncdepjbhnknaaGreatDoor
/- The document's Ratio, Int. -/
namespace Go.Proofs.YtcncdepjbhnknaaGreatDoor
open Go.RowKit Go.Shelf



set_option maxRecDepth 100000 in
set_option maxHeartbeats 4000000 in
theorem rratio_any (a b : Int) (ha0 : -9223372036854775808 ≤ a) (ha1 : a ≤ 9223372036854775807) (hb0 : -9223372036854775808 ≤ b) (hb1 : b ≤ 9223372036854775807) (w : World) :
    Calls Tryz.prog 52 #[.int .i64 a, .int .i64 b] w (PartPost (RatioR a b) w) := by
  by_cases g1 : a < 0
  · skip
    have HB1 : Hid (Below w.heap.size w (w.alloc (.cells #[.string ⟨#[]⟩, .string ⟨#[]⟩] 46))) := (Below.refl _ w).alloc (Nat.le_refl _) _
    have c0 : (w.alloc (.cells #[.string ⟨#[]⟩, .string ⟨#[]⟩] 46)).cell? ⟨w.heap.size, 0, none⟩ = some (.string ⟨#[]⟩) := cell_new _ _ _ 0 rfl
    have c1 : (w.alloc (.cells #[.string ⟨#[]⟩, .string ⟨#[]⟩] 46)).cell? ⟨w.heap.size, 1, none⟩ = some (.string ⟨#[]⟩) := cell_new _ _ _ 1 rfl
    go_enter Tryz.func52, Tryz.ntmps52
    go_wp2
    refine bodyPost_ret (v := .tuple #[.agg #[.string ⟨#[]⟩, .string ⟨#[]⟩], .int .i64 11]) (by simp [results, Tryz.f52, go_sem, c0, c1]) rfl ⟨_, _, _, rfl, ?_, HB1.out⟩
    exact .inl ⟨.inl g1, rfl, rfl, rfl⟩
  by_cases g2 : b < 0
  · skip
    have HB1 : Hid (Below w.heap.size w (w.alloc (.cells #[.string ⟨#[]⟩, .string ⟨#[]⟩] 46))) := (Below.refl _ w).alloc (Nat.le_refl _) _
    have c0 : (w.alloc (.cells #[.string ⟨#[]⟩, .string ⟨#[]⟩] 46)).cell? ⟨w.heap.size, 0, none⟩ = some (.string ⟨#[]⟩) := cell_new _ _ _ 0 rfl
    have c1 : (w.alloc (.cells #[.string ⟨#[]⟩, .string ⟨#[]⟩] 46)).cell? ⟨w.heap.size, 1, none⟩ = some (.string ⟨#[]⟩) := cell_new _ _ _ 1 rfl
    go_enter Tryz.func52, Tryz.ntmps52
    go_wp2
    refine bodyPost_ret (v := .tuple #[.agg #[.string ⟨#[]⟩, .string ⟨#[]⟩], .int .i64 11]) (by simp [results, Tryz.f52, go_sem, c0, c1]) rfl ⟨_, _, _, rfl, ?_, HB1.out⟩
    exact .inl ⟨.inr g2, rfl, rfl, rfl⟩
  by_cases g3 : b = 0
  · subst g3
    have HB1 : Hid (Below w.heap.size w (w.alloc (.cells #[.string ⟨#[]⟩, .string ⟨#[]⟩] 46))) := (Below.refl _ w).alloc (Nat.le_refl _) _
    have c0 : (w.alloc (.cells #[.string ⟨#[]⟩, .string ⟨#[]⟩] 46)).cell? ⟨w.heap.size, 0, none⟩ = some (.string ⟨#[]⟩) := cell_new _ _ _ 0 rfl
    have c1 : (w.alloc (.cells #[.string ⟨#[]⟩, .string ⟨#[]⟩] 46)).cell? ⟨w.heap.size, 1, none⟩ = some (.string ⟨#[]⟩) := cell_new _ _ _ 1 rfl
    go_enter Tryz.func52, Tryz.ntmps52
    go_wp2
    refine bodyPost_ret (v := .tuple #[.agg #[.string ⟨#[]⟩, .string ⟨#[]⟩], .int .i64 10]) (by simp [results, Tryz.f52, go_sem, c0, c1]) rfl ⟨_, _, _, rfl, ?_, HB1.out⟩
    exact .inr (.inl ⟨by omega, rfl, rfl, rfl, rfl⟩)
  have g4 : (b == 0) = false := by rw [beq_eq_false_iff_ne]; exact g3
  have HA := Lib.hid (rof_any a ha0 ha1)
  have HBB := Lib.hid (rof_any b hb0 hb1)
  have HG : Hid (0 ≤ a ∧ 0 ≤ b ∧ a ≤ 9223372036854775807 ∧ b ≤ 9223372036854775807) := ⟨by omega, by omega, ha1, hb1⟩
  go_enter Tryz.func52, Tryz.ntmps52
  go_wp2_with fail
  obtain ⟨w1, hw1⟩ : ∃ w1, w.alloc (.cells #[.string ⟨#[]⟩, .string ⟨#[]⟩] 46) = w1 := ⟨_, rfl⟩
  rw [hw1]
  have HX1 : Hid (Boxes w.heap.size [.cells #[.string ⟨#[]⟩, .string ⟨#[]⟩] 46] w1) := by rw [← hw1]; exact Boxes.one w _
  have HB1 : Hid (Below w.heap.size w w1) := by rw [← hw1]; exact (Below.refl _ w).alloc (Nat.le_refl _) _
  clear hw1
  refine (HA.out _).mono ?_
  rintro e w2 ⟨s, r1, rfl, hR1, hb2⟩
  obtain ⟨hs, rfl⟩ : s = str (Lib.decDigits a.toNat) ∧ r1 = 0 := by
    rcases hR1 with ⟨h, _⟩ | ⟨_, h1, h2⟩
    · omega
    · exact ⟨h1, h2⟩
  have HX2 := Lib.hid (HX1.out.below hb2 HX1.out.lt)
  have HB2 := Lib.hid (HB1.out.trans (hb2.mono HB1.out.size))
  have HS := Lib.hid hs
  clear hb2 hR1 hs
  go_wp2_with fail
  refine (HBB.out _).mono ?_
  rintro e w3 ⟨t, r2, rfl, hR2, hb3⟩
  obtain ⟨ht, rfl⟩ : t = str (Lib.decDigits b.toNat) ∧ r2 = 0 := by
    rcases hR2 with ⟨h, _⟩ | ⟨_, h1, h2⟩
    · omega
    · exact ⟨h1, h2⟩
  have HX3 := Lib.hid (HX2.out.below hb3 HX2.out.lt)
  have HB3 := Lib.hid (HB2.out.trans (hb3.mono HB2.out.size))
  have HT := Lib.hid ht
  clear hb3 hR2 ht
  have hss : s.size ≤ 1000000 := by rw [HS.out, str_size]; have := i64_pow ha1; omega
  have hts : t.size ≤ 1000000 := by rw [HT.out, str_size]; have := i64_pow hb1; omega
  have HM := Lib.hid (rmake_any s t w3 hss hts)
  clear hss hts
  go_wp2_with fail
  refine HM.out.mono ?_
  rintro e w6 ⟨x, y, n, rfl, hR, hb6⟩
  have HR := Lib.hid (ratio_made HG.out.1 HG.out.2.1 HG.out.2.2.1 HG.out.2.2.2 HS.out HT.out hR)
  have HX6 := Lib.hid (HX3.out.below hb6 HX3.out.lt)
  have HB6 := Lib.hid (HB3.out.trans (hb6.mono HB3.out.size))
  clear hR hb6
  have r0 := HX6.out.cell 0 0 (b := w.heap.size) rfl rfl rfl
  have r1 := HX6.out.cell 0 1 (b := w.heap.size) rfl rfl rfl
  have f0 := HX6.out.free 0 0 (b := w.heap.size) rfl rfl
  have f1 := HX6.out.free 0 1 (b := w.heap.size) rfl rfl
  go_wp2
  have q := two_put_cells (HX6.out.block 0 (b := w.heap.size) rfl rfl) (.string x) (.string y)
  have HBQ := Lib.hid (two_put_below HB6.out (b := w.heap.size) (by omega) (.string x) (.string y))
  obtain ⟨w9, hw9⟩ : ∃ w9, (w6.setCell ⟨w.heap.size, 0, none⟩ (.string x)).setCell ⟨w.heap.size, 1, none⟩ (.string y) = w9 := ⟨_, rfl⟩
  rw [hw9] at q HBQ
  obtain ⟨q0, q1⟩ := q
  rw [hw9]
  clear r0 r1 f0 f1 hw9
  go_wp2
  refine bodyPost_ret (v := .tuple #[.agg #[.string x, .string y], .int .i64 n]) (by simp [results, Tryz.f52, go_sem, q0, q1]) rfl ⟨_, _, _, rfl, ?_, HBQ.out⟩
  exact HR.out

/-- What Int answers: the integer, the error. -/
def intA (s : ByteArray) : Int := if natOk s.data.toList = true ∧ decVal s.data.toList ≤ 4611686018427387904 then (decVal s.data.toList : Nat) else 0
def intE (s : ByteArray) : Int := if natOk s.data.toList = true then (if decVal s.data.toList ≤ 4611686018427387904 then 0 else 4) else 2
theorem int_no {s : ByteArray} (h : natOk s.data.toList = false) : intA s = 0 ∧ intE s = 2 := by unfold intA intE; rw [h]; exact ⟨rfl, rfl⟩
theorem int_far {s : ByteArray} (h : natOk s.data.toList = true) (h2 : 4611686018427387904 < decVal s.data.toList) : intA s = 0 ∧ intE s = 4 := by
  unfold intA intE
  rw [if_neg (by rw [h]; omega), if_pos h, if_neg (by omega)]; exact ⟨rfl, rfl⟩
theorem int_yes {s : ByteArray} (h : natOk s.data.toList = true) (h2 : decVal s.data.toList ≤ 4611686018427387904) : intA s = (decVal s.data.toList : Nat) ∧ intE s = 0 := by
  unfold intA intE
  rw [if_pos ⟨h, h2⟩, if_pos h, if_pos h2]; exact ⟨rfl, rfl⟩
def IntOf (s : ByteArray) (w : World) (e : Ending) (w' : World) : Prop := e = .returned (.tuple #[.int .i64 (intA s), .int .i64 (intE s)]) ∧ Below w.heap.size w w'
theorem val_drop_le (B : Nat) (hB : 0 < B) : ∀ (l : List Nat) (k : Nat), val B (l.drop k) ≤ val B l
  | l, 0 => by simp
  | [], k + 1 => by simp
  | x :: l, k + 1 => by
    have h1 := val_drop_le B hB l k
    have h2 : val B l * 1 ≤ val B l * B := Nat.mul_le_mul_left _ hB
    rw [List.drop_succ_cons, val_cons, Nat.mul_comm]
    omega
theorem most_val : decVal (⟨#[52, 54, 49, 49, 54, 56, 54, 48, 49, 56, 52, 50, 55, 51, 56, 55, 57, 48, 52]⟩ : ByteArray).data.toList = 4611686018427387904 := by decide +kernel
theorem most_dig : ∀ c ∈ (⟨#[52, 54, 49, 49, 54, 56, 54, 48, 49, 56, 52, 50, 55, 51, 56, 55, 57, 48, 52]⟩ : ByteArray).data.toList, isDig c = true := by decide +kernel

end Go.Proofs.YtcncdepjbhnknaaGreatDoor
/- The coverage of an effort, in plain words; ratios with a known answer. -/
namespace Go.Proofs.YtcncdepjbhnknaaGreatDoor
open Go.RowKit Go.Shelf

/-- Are the numbers within their bounds? -/
def coverIn (w s t a : Int) : Prop := (0 ≤ w ∧ w ≤ 100000) ∧ (0 ≤ s ∧ s ≤ 1048576) ∧ (0 ≤ t ∧ t ≤ 1048576) ∧ (1 ≤ a ∧ a ≤ 1125899906842624)
def coverQ (w s t a : Int) : Rat := mkRat (w * s * t) (a.toNat * 1000)
theorem coverIn.prod {w s t a : Int} (h : coverIn w s t a) : 0 ≤ w * s ∧ w * s ≤ 104857600000 := by
  obtain ⟨h1, h2, _⟩ := h
  refine ⟨Int.mul_nonneg h1.1 h2.1, ?_⟩
  have := Int.mul_le_mul h1.2 h2.2 h2.1 (by omega)
  omega
theorem nat_int {x : Int} (h : 0 ≤ x) : ((x.toNat : Nat) : Int) = x := by omega
theorem coverIn.prog {w s t a : Int} (h : coverIn w s t a) : mkRat ((w * s).toNat : Nat) a.toNat * mkRat (t.toNat : Nat) 1000 = coverQ w s t a := by
  unfold coverQ
  rw [Rat.mkRat_mul_mkRat, nat_int h.prod.1, nat_int h.2.2.1.1]
theorem coverIn.docu {w s t a : Int} (h : coverIn w s t a) : mkRat ((w * s).toNat : Nat) 1000 * mkRat (t.toNat : Nat) a.toNat = coverQ w s t a := by
  unfold coverQ
  rw [Rat.mkRat_mul_mkRat, nat_int h.prod.1, nat_int h.2.2.1.1, Nat.mul_comm 1000]
def CoverA (w s t a : Int) (x y : ByteArray) (n : Int) : Prop := (¬ coverIn w s t a ∧ x = ⟨#[]⟩ ∧ y = ⟨#[]⟩ ∧ n = 2) ∨ (coverIn w s t a ∧ IsP (coverQ w s t a) x y ∧ n = 0)
theorem CoverA.det {w s t a : Int} {x y u v : ByteArray} {n m : Int} (h : CoverA w s t a x y n) (g : CoverA w s t a u v m) : x = u ∧ y = v ∧ n = m := by
  rcases h with ⟨h, rfl, rfl, rfl⟩ | ⟨h, h1, rfl⟩ <;> rcases g with ⟨g, rfl, rfl, rfl⟩ | ⟨g, g1, rfl⟩
  · exact ⟨rfl, rfl, rfl⟩
  · exact absurd g h
  · exact absurd h g
  · exact ⟨(h1.one g1).1, (h1.one g1).2, rfl⟩
/-- A ratio of numbers that are not great. -/
theorem ratio_isP (n d : Nat) (hd : 0 < d) (h1 : n < 10 ^ 18) (h2 : d < 10 ^ 18) : (∃ x y, IsP (mkRat (n : Nat) d) x y) ∧ Sz 18 (mkRat (n : Nat) d) ∧ 0 ≤ mkRat (n : Nat) d := by
  have h0 : 0 ≤ mkRat (n : Nat) d := mkRat_nonneg n d
  have hz := Sz.mk hd h1 h2
  exact ⟨sz_isP h0 hz (by decide) (by decide), hz, h0⟩
theorem mul_isP {a b : Rat} (ha : 0 ≤ a) (hb : 0 ≤ b) (h1 : Sz 18 a) (h2 : Sz 18 b) : ∃ x y, IsP (a * b) x y := sz_isP (Rat.mul_nonneg ha hb) (Sz.mul ha hb h1 h2) (by decide) (by decide)
theorem ratio_to {a b : Int} {x y : ByteArray} (ha : 0 ≤ a) (hb : 0 < b) (ha1 : a ≤ 9223372036854775807) (hb1 : b ≤ 9223372036854775807) (hx : IsP (mkRat (a.toNat : Nat) b.toNat) x y) (w : World)(hT : Tabs w) :
    Calls Tryz.prog 72 #[.int .i64 a, .int .i64 b] w (ValPost (.tuple #[pV x y, .int .i64 0]) w) := by
  refine (ratio_any a b (by omega) ha1 (by omega) hb1 w hT).mono ?_
  rintro e w' ⟨u, v, n, rfl, h, hb2⟩
  rcases h with ⟨h, _⟩ | ⟨_, h, _⟩ | ⟨_, _, h⟩
  · omega
  · omega
  · obtain ⟨rfl, rfl, rfl⟩ := ans_to h hx rfl
    exact ⟨rfl, hb2⟩
theorem rratio_to {a b : Int} {x y : ByteArray} (ha : 0 ≤ a) (hb : 0 < b) (ha1 : a ≤ 9223372036854775807) (hb1 : b ≤ 9223372036854775807) (hx : IsP (mkRat (a.toNat : Nat) b.toNat) x y) (w : World) :
    Calls Tryz.prog 52 #[.int .i64 a, .int .i64 b] w (ValPost (.tuple #[pV x y, .int .i64 0]) w) := by
  refine (rratio_any a b (by omega) ha1 (by omega) hb1 w).mono ?_
  rintro e w' ⟨u, v, n, rfl, h, hb2⟩
  rcases h with ⟨h, _⟩ | ⟨_, h, _⟩ | ⟨_, _, h⟩
  · omega
  · omega
  · obtain ⟨rfl, rfl, rfl⟩ := ans_to h hx rfl
    exact ⟨rfl, hb2⟩
end Go.Proofs.YtcncdepjbhnknaaGreatDoor
/- The document's Halving, Same. -/
namespace Go.Proofs.YtcncdepjbhnknaaGreatDoor
open Go.RowKit Go.Shelf
attribute [local go_sem ↓] Go.wp_at_zero Go.wp_at_succ

/-- The first bends of a curve that halves. -/
def halvP (n : Nat) : List BB := (List.range n).map halvB
theorem halvP_len (n : Nat) : (halvP n).length = n := by simp [halvP]
theorem halvP_snoc (n : Nat) : halvP (n + 1) = halvP n ++ [halvB n] := by
  unfold halvP
  rw [List.range_succ, List.map_append]
  rfl
theorem halvP_is (n : Nat) : halvP (n + 1) = halvL n := rfl
theorem two_pow_i {k : Nat} (hk : k ≤ 41) : (2 ^ k : Nat) ≤ 4398046511104 := Nat.le_trans (Nat.pow_le_pow_right (by decide) hk) (by decide)
set_option maxRecDepth 100000 in
set_option maxHeartbeats 8000000 in
theorem rhalving_any (n : Int) (w : World) : Calls Tryz.prog 21 #[.int .i64 n] w (HalvPost n w) := by
  by_cases hn : 1 ≤ n ∧ n ≤ 40
  rotate_left
  · have HNN := Lib.hid hn
    have HBT : Hid ((decide ((1 : Int) ≤ n) && decide (n ≤ 40)) = false) := by show _ = _; rw [Bool.and_eq_false_iff, decide_eq_false_iff_not, decide_eq_false_iff_not]; omega
    clear hn
    go_enter Tryz.func21, Tryz.ntmps21
    go_wp2_with fail
    refine (rin_any _ 1 40 _).mono ?_
    rintro e w2 ⟨rfl, hb⟩
    rw [HBT.out]
    have HB2 := Lib.hid hb
    clear hb
    go_wp2
    exact bodyPost_ret (v := .tuple #[.slice none 0 0, .int .i64 2]) (by simp [results, Tryz.f21, go_sem]) rfl ⟨.inl ⟨HNN.out, rfl⟩, HB2.out⟩
  obtain ⟨n, rfl⟩ : ∃ m : Nat, n = m := ⟨n.toNat, by omega⟩
  have HNN : Hid ((1 : Int) ≤ (n : Int) ∧ (n : Int) ≤ 40) := hn
  have hn2 : n ≤ 40 := by omega
  have HBT : Hid ((decide ((1 : Int) ≤ (n : Int)) && decide ((n : Int) ≤ 40)) = true) := by show _ = _; simp; omega
  clear hn
  obtain ⟨i0, hi, hz0, hz1, hz2⟩ := info_parts info_bend
  go_enter Tryz.func21, Tryz.ntmps21
  go_wp2_with fail
  refine (rin_any _ 1 40 _).mono ?_
  rintro e w2 ⟨rfl, hb⟩
  rw [HBT.out]
  have HB2 := Lib.hid hb
  clear hb
  go_wp2_with fail
  go_loopw [4, 5, 6] (fun vo vp i wr => ∃ (k p : Nat), i = .int .i64 k ∧ vp = .int .i64 p ∧ k ≤ n + 1 ∧ p ≤ 4398046511104 ∧ 1 ≤ p ∧ Hid (p = 2 ^ k) ∧ Hid (OwnB wr w.heap.size vo (halvP k)) ∧ Hid (Below w.heap.size w wr)) (fun _ _ i _ => n + 1 - (intOf i).toNat)
  case atStart => exact ⟨0, 1, rfl, rfl, Nat.zero_le _, by decide, by decide, rfl, OwnB.nil _ _, HB2⟩
  case round =>
    obtain ⟨k, p, rfl, rfl, hk, hp, hp1, HPK, HO, HB⟩ := hrel
    clear HB2
    by_cases hlt : k ≤ n
    · have h1 : (k : Int) ≤ (n : Int) := by omega
      obtain ⟨i1, i2⟩ := halv_isP (k := k) (by omega)
      obtain ⟨z, hz⟩ : ∃ z, halvB k = z := ⟨_, rfl⟩
      rw [hz] at i1 i2
      have HZ := Lib.hid hz
      obtain ⟨⟨s, t⟩, x, y⟩ := z
      dsimp only at i1 i2
      obtain ⟨m, hm⟩ : ∃ m, p = m + 1 := ⟨p - 1, by omega⟩
      have e1 : IntKind.i64.wrap ((p : Int) - 1) = (m : Int) := by rw [IntWalk.i64_in _ (by omega)]; omega
      have hpk := HPK.out
      have em : 2 ^ k - 1 = m := by omega
      rw [em, ← hpk] at i2
      have CT1 := Lib.hid (fun W => rratio_to (a := (k : Int)) (b := 1) (by omega) (by omega) (by omega) (by omega) i1 W)
      have CT2 := Lib.hid (fun W => rratio_to (a := (m : Int)) (b := (p : Int)) (by omega) (by omega) (by omega) (by omega) i2 W)
      clear hz i1 i2 hm hpk em
      go_wp2_with fail
      refine (CT1.out _).mono ?_
      rintro e w3 ⟨rfl, hb⟩
      have al := (Below.refl w3.heap.size w3).alloc (Nat.le_refl _) (pObj s t)
      have HB3 := Lib.hid (HB.out.trans ((hb.trans (al.mono hb.size)).mono HB.out.size))
      have HO3 := Lib.hid (HO.out.after (hb.trans (al.mono hb.size)))
      have HE3 := Lib.hid ((Env.start w3).push (pObj s t) rfl)
      clear hb al
      go_wp2_with fail
      refine (CT2.out _).mono ?_
      rintro e w4 ⟨rfl, hb⟩
      have al := (Below.refl w4.heap.size w4).alloc (Nat.le_refl _) (pObj x y)
      obtain ⟨w5, hw5⟩ : ∃ z, w4.alloc (pObj x y) = z := ⟨_, rfl⟩
      have HB5 : Hid (Below w.heap.size w w5) := by rw [← hw5]; exact HB3.out.trans ((hb.trans (al.mono hb.size)).mono HB3.out.size)
      have HO5 : Hid (OwnB w5 w.heap.size u4 (halvP k)) := by rw [← hw5]; exact HO3.out.after (hb.trans (al.mono hb.size))
      have HE5 : Hid (Env w3.heap.size w3 [(w4.heap.size, pObj x y), (w3.heap.size, pObj s t)] [] w5) := by rw [← hw5]; exact (HE3.out.step hb).push _ rfl
      clear hb al HB3 HO3 HE3 CT1 CT2
      have c0 := HE5.out.cell 1 0 (v := .string s) rfl rfl
      have c1 := HE5.out.cell 1 1 (v := .string t) rfl rfl
      have d0 := HE5.out.cell 0 0 (v := .string x) rfl rfl
      have d1 := HE5.out.cell 0 1 (v := .string y) rfl rfl
      obtain ⟨po, no, co, rfl⟩ : ∃ p n c, u4 = .slice p n c := by
        rcases HO.out.2 with ⟨h, _⟩ | ⟨g, cap, cur, h, _⟩
        · exact ⟨_, _, _, h⟩
        · exact ⟨_, _, _, h⟩
      have hlen : (halvP k).length = k := halvP_len k
      have hownA : (w5.alloc (bO s t x y)).ownsRow w.heap.size 56 4 (.slice po no co) (halvP k).length (bcells (halvP k)) := HO5.out.alloc _
      have hm1 : (halvP k).length + 1 ≤ maxLen := by rw [hlen]; unfold maxLen; omega
      have hm2 : ((halvP k).length + 1) * 64 ≤ 140737488355328 := by rw [hlen]; omega
      have hm3 : w.heap.size ≤ (w5.alloc (bO s t x y)).heap.size := by have := HB5.out.size; simp; omega
      have hnews : ∀ (j : Nat) (z : Value), ([.string s, .string t, .string x, .string y] : List Value)[j]? = some z → (w5.alloc (bO s t x y)).cell? ((⟨w5.heap.size, 0, none⟩ : Addr).add j) = some z := World.news_of_block (World.alloc_heap_new w5 _)
      have e2 : IntKind.i64.wrap (2 * (p : Int)) = ((2 * p : Nat) : Int) := by rw [IntWalk.i64_in _ (by omega)]; omega
      go_wp2_with (at_builtin; go_loud (refine wpList_append_own _ rfl _ _ 34 rfl w.heap.size 56 i0 (.agg #[.string ⟨#[]⟩, .string ⟨#[]⟩, .string ⟨#[]⟩, .string ⟨#[]⟩]) 4 64 Tryz.underlying34 hi hz0 hz1 hz2 rfl (by decide) _ (halvP k).length (bcells (halvP k)) rfl hownA ⟨w5.heap.size, 0, none⟩ 1 1 [.string s, .string t, .string x, .string y] rfl rfl hnews (by simp [Value.oneCell']) hm1 hm2 hm3 ?_); intro v' w7 hown7 hgrow7 _)
      have HB7 : Hid (Below w.heap.size w w7) := (HB5.out.alloc HB5.out.size _).grown hgrow7 hm3 (fun z hz => (World.ownsRow.lt hownA z hz).1)
      have HO7 : Hid (OwnB w7 w.heap.size v' (halvP (k + 1))) := by
        rw [halvP_snoc, HZ.out]
        exact OwnB.snoc hown7
      have HPK2 : Hid (2 * p = 2 ^ (k + 1)) := by show _ = _; rw [HPK.out, Nat.pow_succ]; omega
      have hp4 : 2 * p ≤ 4398046511104 := by rw [HPK2.out]; exact two_pow_i (by omega)
      clear hown7 hgrow7 hownA hnews hm1 hm2 hm3 hlen
      go_roundw
      case rel => exact ⟨k + 1, 2 * p, by go_num, by first | rfl | go_num, by omega, hp4, by omega, HPK2, HO7, HB7⟩
      case measure => simp [intOf]; omega
    · obtain rfl : k = n + 1 := by omega
      have h1 : ¬ ((n : Int) + 1) ≤ (n : Int) := by omega
      have h2 : ¬ ((n + 1 : Nat) : Int) ≤ (n : Int) := by omega
      go_wp2
      exact bodyPost_ret (v := .tuple #[u4, .int .i64 0]) (by simp [results, Tryz.f21, go_sem]) rfl ⟨.inr ⟨HNN.out, u4, rfl, by rw [Int.toNat_natCast]; exact HO.out⟩, HB.out⟩
/-- Are two curves alike? (Here the same list.) -/
theorem rsameB_yes {v v2 : Value} {bs : List BB} {w : World} (hv : BL w v bs) (hv2 : BL w v2 bs) : Calls Tryz.prog 24 #[v, v2] w (BoolPost w true) := by
  obtain ⟨n, hn⟩ : ∃ n, bs.length = n := ⟨_, rfl⟩
  obtain ⟨p, c, rfl⟩ : ∃ p c, v = .slice p n c := by obtain ⟨p, c, h, _⟩ := id hv; exact ⟨_, _, by rw [← hn]; exact h⟩
  obtain ⟨p2, c2, rfl⟩ : ∃ p c, v2 = .slice p n c := by obtain ⟨p, c, h, _⟩ := id hv2; exact ⟨_, _, by rw [← hn]; exact h⟩
  obtain ⟨_, hcc, hnc⟩ := hv.len
  have HL := Lib.hid hn
  have HV := Lib.hid hv
  have HV2 := Lib.hid hv2
  clear hv hn hv2
  go_enter Tryz.func24, Tryz.ntmps24
  go_wp2_with fail
  go_loopw [5] (fun i wr => ∃ k : Nat, i = .int .i64 k ∧ k ≤ n ∧ Hid (Env w.heap.size w [] [] wr)) (fun i _ => n - (intOf i).toNat)
  case atStart => exact ⟨0, rfl, Nat.zero_le _, Env.start w⟩
  case round =>
    obtain ⟨k, rfl, hk, HE⟩ := hrel
    by_cases hlt : k < n
    · obtain ⟨b, off, rfl, hbl, hat⟩ := HV.out.at HL.out (by omega)
      obtain ⟨b2, off2, rfl, hbl2, hat2⟩ := HV2.out.at HL.out (by omega)
      have hf := fun V hV => hat V hV k hlt
      have hf2 := fun V hV => hat2 V hV k hlt
      obtain ⟨z, hz⟩ : ∃ z, bAt bs k = z := ⟨_, rfl⟩
      rw [hz] at hf hf2
      obtain ⟨⟨s, t⟩, x, y⟩ := z
      dsimp only at hf hf2
      have HF := Lib.hid hf
      have HF2 := Lib.hid hf2
      have i0' : (0 : Int) ≤ (k : Int) := by omega
      have i1' : (k : Int) < (n : Int) := by omega
      clear hat hat2 hf hf2 hz
      go_wp2_with fail
      refine tsteps_plain [(true, 0), (true, 1), (true, 2), (true, 3), (true, 4), (true, 5), (true, 6), (true, 7), (true, 8)] (Env w.heap.size w [] []) (fun _ => false)
        (by kernel_rfl) (by kernel_rfl) (by kernel_rfl) (fun _ _ => rfl) (fun _ _ o _ _ h => by cases o <;> exact h) HE.out.drew ?_
      have HE1 := Lib.hid HE.out.drew
      skip
      iterate 8
        refine steps_read _ rfl rfl (fun w' hS => by obtain ⟨a0, a1, a2, a3⟩ := HF.out w' hS.base; obtain ⟨c0, c1, c2, c3⟩ := HF2.out w' hS.base; go_simp; first | rfl | (rw [if_pos (by omega)])) ?_
        simp only [List.getElem_toArray, List.getElem_cons_succ, List.getElem_cons_zero, Act.put, List.setIfInBounds_toArray, List.set_cons_zero, List.set_cons_succ]
      refine steps_read (.bool false) rfl rfl (fun w' hS => by skip; go_simp; first|done|simp) ?_
      simp only [List.getElem_toArray, List.getElem_cons_succ, List.getElem_cons_zero, Act.put, List.setIfInBounds_toArray, List.set_cons_zero, List.set_cons_succ]
      refine steps_end ?_
      go_wp2
      go_roundw
      case rel => exact ⟨k + 1, by go_num, by omega, HE1⟩
      case measure => simp [intOf]; omega
    · go_wp2
      go_ret
      exact ⟨rfl, HE.out.base⟩
end Go.Proofs.YtcncdepjbhnknaaGreatDoor
/- DetectCurves' walk. -/
namespace Go.Proofs.YtcncdepjbhnknaaGreatDoor
open Go.RowKit Go.Shelf
attribute [local go_sem ↓] Go.wp_at_zero Go.wp_at_succ

theorem CurveE.det {bs : List BB} {n m : Int} (h : CurveE bs n) (g : CurveE bs m) : n = m := by
  rcases h with ⟨h1, rfl⟩ | ⟨h1, rfl⟩ <;> rcases g with ⟨g1, rfl⟩ | ⟨g1, rfl⟩
  · rfl
  · exact absurd h1 g1
  · exact absurd g1 h1
  · rfl
/-- What Halving answers: a list and a number. -/
theorem HalvPost.form {n : Int} {w w' : World} {e : Ending} (h : HalvPost n w e w') : ∃ v, e = .returned (.tuple #[v, .int .i64 (if 1 ≤ n ∧ n ≤ 40 then 0 else 2)]) ∧ BL w' v (if 1 ≤ n ∧ n ≤ 40 then halvL n.toNat else []) ∧ Below w.heap.size w w' := by
  obtain ⟨h, hb⟩ := h
  rcases h with ⟨h1, rfl⟩ | ⟨h1, v, rfl, ho⟩
  · exact ⟨.slice none 0 0, by rw [if_neg h1], by rw [if_neg h1]; exact BL.nil _, hb⟩
  · exact ⟨v, by rw [if_pos h1], by rw [if_pos h1]; exact ho.bl, hb⟩
set_option maxRecDepth 100000 in
set_option maxHeartbeats 8000000 in
theorem curves_law {v : Value} {bs : List BB} {w : World} (hv : BL w v bs) (n : Int) (hD : DetV w) (hT : Tabs w) :
    Calls Tryz.prog 4 #[v, .int .i64 n] w (BoolPost w true) := by
  obtain ⟨l, hl⟩ : ∃ n, bs.length = n := ⟨_, rfl⟩
  obtain ⟨p, c, rfl⟩ : ∃ p c, v = .slice p l c := by obtain ⟨p, c, h, _⟩ := id hv; exact ⟨_, _, by rw [← hl]; exact h⟩
  have HV := Lib.hid hv
  have HT := Lib.hid hT
  have HD := Lib.hid hD
  clear hv hl hT hD
  obtain ⟨m, hm⟩ : ∃ m : Int, (if 1 ≤ n ∧ n ≤ 40 then (0 : Int) else 2) = m := ⟨_, rfl⟩
  obtain ⟨q, hq⟩ : ∃ q, (if 1 ≤ n ∧ n ≤ 40 then halvL n.toNat else []) = q := ⟨_, rfl⟩
  have HF : Hid (∀ {w w' : World} {e : Ending}, HalvPost n w e w' → ∃ v, e = .returned (.tuple #[v, .int .i64 m]) ∧ BL w' v q ∧ Below w.heap.size w w') := fun h => by rw [← hm, ← hq]; exact h.form
  clear hm hq
  go_enter Tryz.func4, Tryz.ntmps4
  have HE0 := Lib.hid (Env.start w)
  go_wp2_with fail
  refine (great_any (HV.out.after HE0.out.base (Nat.le_refl _))).mono ?_
  rintro e w1 ⟨r, rfl, hG, hb⟩
  have HE1 := Lib.hid (HE0.out.step hb)
  clear hb HE0
  cases r
  rotate_left
  · clear hG
    go_wp2_with fail
    skip
    have HEC := HE1
    refine (alive_any _ (HD.out.below HEC.out.base (Nat.le_refl _)) (HT.out.below HEC.out.base (Nat.le_refl _))).mono ?_
    rintro e w2 ⟨rfl, hb⟩
    have HE2 := Lib.hid (HE1.out.step hb)
    clear hb HEC
    go_wp2
    go_ret
    exact ⟨rfl, HE2.out.base⟩
  have HGR := Lib.hid (hG rfl)
  have HLM := Lib.hid (few_lim HGR.out.2)
  clear hG
  go_wp2_with fail
  refine (halving_any n _ (HD.out.below HE1.out.base (Nat.le_refl _)) (HT.out.below HE1.out.base (Nat.le_refl _))).mono ?_
  intro e w2 hh
  obtain ⟨va, rfl, hva, hb⟩ := HF.out hh
  have HE2 := Lib.hid (HE1.out.step hb)
  have HVA := Lib.hid hva
  obtain ⟨pa, na, ca, rfl⟩ : ∃ p n c, va = .slice p n c := by obtain ⟨p, c, h, _⟩ := hva; exact ⟨_, _, _, h⟩
  clear hh hb hva HE1
  go_wp2_with fail
  refine (rhalving_any n _).mono ?_
  intro e w3 hh
  obtain ⟨vb, rfl, hvb, hb⟩ := HF.out hh
  have HE3 := Lib.hid (HE2.out.step hb)
  have HVA3 := Lib.hid (HVA.out.after hb (Nat.le_refl _))
  have HVB3 := Lib.hid hvb
  obtain ⟨pb, nb, cb, rfl⟩ : ∃ p n c, vb = .slice p n c := by obtain ⟨p, c, h, _⟩ := hvb; exact ⟨_, _, _, h⟩
  clear hh hb hvb HE2 HVA
  go_wp2_with fail
  refine (checkCurve_any (HV.out.after HE3.out.base (Nat.le_refl _)) HLM.out (HD.out.below HE3.out.base (Nat.le_refl _)) (HT.out.below HE3.out.base (Nat.le_refl _))).mono ?_
  rintro e w4 ⟨n1, rfl, h1, hb⟩
  have HE4 := Lib.hid (HE3.out.step hb)
  have HVA4 := Lib.hid (HVA3.out.after hb (Nat.le_refl _))
  have HVB4 := Lib.hid (HVB3.out.after hb (Nat.le_refl _))
  have HC1 := Lib.hid h1
  clear hb h1 HE3 HVA3 HVB3
  go_wp2_with fail
  refine (rcheckCurve_any (HV.out.after HE4.out.base (Nat.le_refl _)) HLM.out).mono ?_
  rintro e w5 ⟨n2, rfl, h2, hb⟩
  obtain rfl := HC1.out.det h2
  have HE5 := Lib.hid (HE4.out.step hb)
  have HVA5 := Lib.hid (HVA4.out.after hb (Nat.le_refl _))
  have HVB5 := Lib.hid (HVB4.out.after hb (Nat.le_refl _))
  clear hb h2 HE4 HVA4 HVB4 HC1
  go_wp2_with fail
  refine (rsameB_yes HVA5.out HVB5.out).mono ?_
  rintro e w6 ⟨rfl, hb⟩
  have HE6 := Lib.hid (HE5.out.step hb)
  clear hb HE5 HVA5 HVB5
  go_wp2_with fail
  skip
  have HEC := HE6
  refine (alive_any _ (HD.out.below HEC.out.base (Nat.le_refl _)) (HT.out.below HEC.out.base (Nat.le_refl _))).mono ?_
  rintro e w7 ⟨rfl, hb⟩
  have HE7 := Lib.hid (HE6.out.step hb)
  clear hb HEC
  go_wp2
  go_ret
  exact ⟨rfl, HE7.out.base⟩
end Go.Proofs.YtcncdepjbhnknaaGreatDoor
/- DetectCurves: for every list of bends and every integer the law returns true and each argument reads behind the call as it read before: the row without its closed facts. Conditions: the package-level variables that the row lists start as the text of the program lays them (the tie is given, over the pruned copy); the row is unfollowed and recurses. -/
namespace Go.Proofs.YtcncdepjbhnknaaGreatDoor
open Go.ChangeShapes Go.WideShapes Go.ChangeAt Go.RowKit

set_option maxRecDepth 100000 in
theorem curves_lifted (os : Os) (started : os.Started) (H : Type) (enc : TypeId × Value → H) :
    ReturnsInHanded {} Tryz.checked os 4 .any (fun w args => (Rows.detectCurvesSpec.pre enc Tryz.prog Tryz.f4 Rows.detectCurvesRow.domain false w args ∧ laidMetH Tryz.prog laid9 w) ∧ sizedMet enc Tryz.prog Tryz.f4 (OpenSpec.ofChange Rows.detectCurvesSpec) false w args)
      (Rows.detectCurvesSpec.post enc Tryz.prog Tryz.f4 false true false false) := by
  refine returnsInHanded_of_change_and (C := Tryz.checked) (X := fun w _ => laidMetH Tryz.prog laid9 w) (fun _ _ _ hh h => h.of_heap hh) own_seat started (by kernel_rfl) Tryz.func4
    (ChangeSpec.witness_shaped (enc := enc) (C := Tryz.checked) (os := os) (X := fun w _ => laidMetH Tryz.prog laid9 w) false (World.laidAll Tryz.prog os laid9) #[.slice none 0 0, .int .i64 0] 8 (World.laidAll_os _ _ _)
      (World.shaped_of_ZipB (by kernel_rfl) (by kernel_rfl)) (by kernel_rfl) (by kernel_rfl) (by kernel_rfl) (met9 os _)) ?_
  intro W base args ds gs before hval0 hW hc _ hL _
  have hval : ∀ (j : Nat) t v, Tryz.f4.params[j]? = some t → args[j]? = some v → Value.okWide Tryz.prog W .any base t v := hval0
  have hW' := hW
  obtain ⟨p, q, hA0, hV, rfl, _, _⟩ := hW
  have hA : DataW.TrodAll enc Tryz.prog W 0 (fun _ => true) true Tryz.f4.params.toList args.toList ds p := hA0
  rw [Tryz.params4] at hA hval
  obtain ⟨v0, v1, d0, d1, p0, p1, rfl, rfl, rfl, h0, h1⟩ := trodAll_two hA
  obtain ⟨rfl, rfl⟩ := trodVars_none hV
  obtain ⟨bs0, hb0⟩ := open_bends (hval 0 _ v0 rfl rfl) h0
  obtain ⟨a1, rfl, rfl, rfl, wa1⟩ := open_int Tryz.underlying3 (hval 1 _ v1 rfl rfl) h1
  have ha1 : -9223372036854775808 ≤ a1 ∧ a1 ≤ 9223372036854775807 := by simpa [Lit.wf, IntKind.min, IntKind.max, IntKind.signed, IntKind.bits] using wa1
  clear hA0 hval0
  simp only [List.append_nil] at hW'
  refine (curves_law hb0 a1 (detV_of_laid9 hL) (tabs_of_laid9 hL)).mono fun e W' ⟨he, bel⟩ => ?_
  subst he
  have nx : ∀ x ∈ ([] : List MemPlace), x.block < W.heap.size := fun _ h => by cases h
  have hlt0 : ∀ x ∈ p0, x.block < W.heap.size := fun x hx => by first | (have := hW'.lt x hx; simpa using this) | (have := hW'.lt x (by simp [hx]); simpa using this)
  refine ⟨_, rfl, _, _, _, [], p0, [], hW', ?_, ?_, ?_, bel.frame _, fun h => by cases h⟩
  · exact trodAll_mk1 (shut_bool Tryz.underlying4 _)
  · have h9 := trodAll_mk2 (Below.trod out_seat (by kernel_rfl) (of_decide_eq_true (by kernel_rfl)) h0 bel hlt0) (Below.trod out_seat (by kernel_rfl) (of_decide_eq_true (by kernel_rfl)) h1 bel nx)
    first | exact h9 | (simp only [List.append_nil, List.nil_append] at h9; exact h9) | (simpa using h9)
  · rfl
end Go.Proofs.YtcncdepjbhnknaaGreatDoor
