/- The parts RInt, RInt2, DOps, CoverM, DNamesM, DMiss2, DCover of a proof, put together by program (merge6.py). -/
import Derived.Test.YtcncdepjbhnknaaGreatDoorJ03
import Derived.Test.YtcncdepjbhnknaaGreatDoorH12
import Derived.Test.YtcncdepjbhnknaaGreatDoorJ02
import Derived.Test.YtcncdepjbhnknaaGreatDoorJ05
import Derived.Test.YtcncdepjbhnknaaGreatDoorH21
import Derived.Test.YtcncdepjbhnknaaGreatDoorJ01
import Derived.Test.YtcncdepjbhnknaaGreatDoorJ06
import Derived.Test.YtcncdepjbhnknaaGreatDoorH17
import Derived.Test.YtcncdepjbhnknaaGreatDoorH19
import Derived.Test.YtcncdepjbhnknaaGreatDoorH15
set_option linter.unusedVariables false
set_option linter.unusedSimpArgs false
/- The document's CheckNat, Make, Of, Ratio, Int. -/
namespace Go.Proofs.YtcncdepjbhnknaaGreatDoor
open Go.RowKit Go.Shelf



set_option maxRecDepth 100000 in
set_option maxHeartbeats 4000000 in
theorem rmake_any (s t : ByteArray) (w : World) (hs : s.size ≤ 1000000) (ht : t.size ≤ 1000000) :
    Calls Tryz.prog 99 #[.string s, .string t] w (PartPost (Made s t) w) := by
  cases h1 : natOk s.data.toList
  · have H1 := Lib.hid h1
    obtain ⟨b2, hb2⟩ : ∃ b, natOk t.data.toList = b := ⟨_, rfl⟩
    have H2 := Lib.hid hb2
    clear h1 hb2
    go_enter Tryz.func99, Tryz.ntmps99
    go_wp2_with fail
    obtain ⟨w1, hw1⟩ : ∃ w1, w.alloc (.cells #[.string ⟨#[]⟩, .string ⟨#[]⟩] 46) = w1 := ⟨_, rfl⟩
    rw [hw1]
    have HX1 : Hid (Boxes w.heap.size [.cells #[.string ⟨#[]⟩, .string ⟨#[]⟩] 46] w1) := by rw [← hw1]; exact Boxes.one w _
    have HB1 : Hid (Below w.heap.size w w1) := by rw [← hw1]; exact (Below.refl _ w).alloc (Nat.le_refl _) _
    clear hw1
    refine (rnat_any s _ hs).mono ?_
    rintro e w2 ⟨rfl, rfl⟩
    rw [H1.out]
    go_wp2_with fail
    refine (rnat_any t _ ht).mono ?_
    rintro e w3 ⟨rfl, rfl⟩
    rw [H2.out]
    have r0 := HX1.out.cell 0 0 (b := w.heap.size) rfl rfl rfl
    have r1 := HX1.out.cell 0 1 (b := w.heap.size) rfl rfl rfl
    have f0 := HX1.out.free 0 0 (b := w.heap.size) rfl rfl
    have f1 := HX1.out.free 0 1 (b := w.heap.size) rfl rfl
    go_wp2
    have q := two_put_cells (HX1.out.block 0 (b := w.heap.size) rfl rfl) (.string ⟨#[]⟩) (.string ⟨#[]⟩)
    have HBQ := Lib.hid (two_put_below HB1.out (b := w.heap.size) (by omega) (.string ⟨#[]⟩) (.string ⟨#[]⟩))
    obtain ⟨w9, hw9⟩ : ∃ w9, (w1.setCell ⟨w.heap.size, 0, none⟩ (.string ⟨#[]⟩)).setCell ⟨w.heap.size, 1, none⟩ (.string ⟨#[]⟩) = w9 := ⟨_, rfl⟩
    rw [hw9] at q HBQ
    obtain ⟨q0, q1⟩ := q
    rw [hw9]
    clear r0 r1 f0 f1 hw9
    go_wp2
    refine bodyPost_ret (v := .tuple #[.agg #[.string ⟨#[]⟩, .string ⟨#[]⟩], .int .i64 2]) (by simp [results, Tryz.f99, go_sem, q0, q1]) rfl ⟨_, _, _, rfl, ?_, HBQ.out⟩
    exact .inl ⟨by rw [H1.out]; rfl, rfl, rfl, rfl⟩
  · have H1 := Lib.hid h1
    clear h1
    cases h2 : natOk t.data.toList
    · have H2 := Lib.hid h2
      clear h2
      go_enter Tryz.func99, Tryz.ntmps99
      go_wp2_with fail
      obtain ⟨w1, hw1⟩ : ∃ w1, w.alloc (.cells #[.string ⟨#[]⟩, .string ⟨#[]⟩] 46) = w1 := ⟨_, rfl⟩
      rw [hw1]
      have HX1 : Hid (Boxes w.heap.size [.cells #[.string ⟨#[]⟩, .string ⟨#[]⟩] 46] w1) := by rw [← hw1]; exact Boxes.one w _
      have HB1 : Hid (Below w.heap.size w w1) := by rw [← hw1]; exact (Below.refl _ w).alloc (Nat.le_refl _) _
      clear hw1
      refine (rnat_any s _ hs).mono ?_
      rintro e w2 ⟨rfl, rfl⟩
      rw [H1.out]
      go_wp2_with fail
      refine (rnat_any t _ ht).mono ?_
      rintro e w3 ⟨rfl, rfl⟩
      rw [H2.out]
      have r0 := HX1.out.cell 0 0 (b := w.heap.size) rfl rfl rfl
      have r1 := HX1.out.cell 0 1 (b := w.heap.size) rfl rfl rfl
      have f0 := HX1.out.free 0 0 (b := w.heap.size) rfl rfl
      have f1 := HX1.out.free 0 1 (b := w.heap.size) rfl rfl
      go_wp2
      have q := two_put_cells (HX1.out.block 0 (b := w.heap.size) rfl rfl) (.string ⟨#[]⟩) (.string ⟨#[]⟩)
      have HBQ := Lib.hid (two_put_below HB1.out (b := w.heap.size) (by omega) (.string ⟨#[]⟩) (.string ⟨#[]⟩))
      obtain ⟨w9, hw9⟩ : ∃ w9, (w1.setCell ⟨w.heap.size, 0, none⟩ (.string ⟨#[]⟩)).setCell ⟨w.heap.size, 1, none⟩ (.string ⟨#[]⟩) = w9 := ⟨_, rfl⟩
      rw [hw9] at q HBQ
      obtain ⟨q0, q1⟩ := q
      rw [hw9]
      clear r0 r1 f0 f1 hw9
      go_wp2
      refine bodyPost_ret (v := .tuple #[.agg #[.string ⟨#[]⟩, .string ⟨#[]⟩], .int .i64 2]) (by simp [results, Tryz.f99, go_sem, q0, q1]) rfl ⟨_, _, _, rfl, ?_, HBQ.out⟩
      exact .inl ⟨by rw [H2.out, Bool.and_false], rfl, rfl, rfl⟩
    · have HZ := Lib.hid (zero_iff h2)
      have H2 := Lib.hid h2
      clear h2
      have dl : t.toList = t.data.toList := ByteArray.toList_eq ..
      by_cases h0 : decVal t.data.toList = 0
      · have hz : (t.toList == [48]) = true := by
          rw [dl, HZ.out.2 h0]; rfl
        have H0 := Lib.hid h0
        clear h0 dl
        go_enter Tryz.func99, Tryz.ntmps99
        go_wp2_with fail
        obtain ⟨w1, hw1⟩ : ∃ w1, w.alloc (.cells #[.string ⟨#[]⟩, .string ⟨#[]⟩] 46) = w1 := ⟨_, rfl⟩
        rw [hw1]
        have HX1 : Hid (Boxes w.heap.size [.cells #[.string ⟨#[]⟩, .string ⟨#[]⟩] 46] w1) := by rw [← hw1]; exact Boxes.one w _
        have HB1 : Hid (Below w.heap.size w w1) := by rw [← hw1]; exact (Below.refl _ w).alloc (Nat.le_refl _) _
        clear hw1
        refine (rnat_any s _ hs).mono ?_
        rintro e w2 ⟨rfl, rfl⟩
        rw [H1.out]
        go_wp2_with fail
        refine (rnat_any t _ ht).mono ?_
        rintro e w3 ⟨rfl, rfl⟩
        rw [H2.out]
        have r0 := HX1.out.cell 0 0 (b := w.heap.size) rfl rfl rfl
        have r1 := HX1.out.cell 0 1 (b := w.heap.size) rfl rfl rfl
        have f0 := HX1.out.free 0 0 (b := w.heap.size) rfl rfl
        have f1 := HX1.out.free 0 1 (b := w.heap.size) rfl rfl
        go_wp2
        have q := two_put_cells (HX1.out.block 0 (b := w.heap.size) rfl rfl) (.string ⟨#[]⟩) (.string ⟨#[]⟩)
        have HBQ := Lib.hid (two_put_below HB1.out (b := w.heap.size) (by omega) (.string ⟨#[]⟩) (.string ⟨#[]⟩))
        obtain ⟨w9, hw9⟩ : ∃ w9, (w1.setCell ⟨w.heap.size, 0, none⟩ (.string ⟨#[]⟩)).setCell ⟨w.heap.size, 1, none⟩ (.string ⟨#[]⟩) = w9 := ⟨_, rfl⟩
        rw [hw9] at q HBQ
        obtain ⟨q0, q1⟩ := q
        rw [hw9]
        clear r0 r1 f0 f1 hw9
        go_wp2
        refine bodyPost_ret (v := .tuple #[.agg #[.string ⟨#[]⟩, .string ⟨#[]⟩], .int .i64 10]) (by simp [results, Tryz.f99, go_sem, q0, q1]) rfl ⟨_, _, _, rfl, ?_, HBQ.out⟩
        exact .inr (.inl ⟨by rw [H1.out, H2.out]; rfl, H0.out, rfl, rfl, rfl⟩)
      · have hz : (t.toList == [48]) = false := by
          rw [beq_eq_false_iff_ne, dl]
          intro hc
          refine h0 (HZ.out.1 ?_)
          rw [← str_eq t, hc]; rfl
        have H0 := Lib.hid h0
        obtain ⟨ds, ls⟩ := rnok H1.out
        obtain ⟨dt, lt⟩ := rnok H2.out
        have HDS := Lib.hid ds
        have HDT := Lib.hid dt
        have HL := Lib.hid (And.intro ls lt)
        clear h0 dl ds ls dt lt
        go_enter Tryz.func99, Tryz.ntmps99
        go_wp2_with fail
        obtain ⟨w1, hw1⟩ : ∃ w1, w.alloc (.cells #[.string ⟨#[]⟩, .string ⟨#[]⟩] 46) = w1 := ⟨_, rfl⟩
        rw [hw1]
        have HX1 : Hid (Boxes w.heap.size [.cells #[.string ⟨#[]⟩, .string ⟨#[]⟩] 46] w1) := by rw [← hw1]; exact Boxes.one w _
        have HB1 : Hid (Below w.heap.size w w1) := by rw [← hw1]; exact (Below.refl _ w).alloc (Nat.le_refl _) _
        clear hw1
        refine (rnat_any s _ hs).mono ?_
        rintro e w2 ⟨rfl, rfl⟩
        rw [H1.out]
        go_wp2_with fail
        refine (rnat_any t _ ht).mono ?_
        rintro e w3 ⟨rfl, rfl⟩
        rw [H2.out]
        go_wp2_with fail
        refine (rparts_any s hs HDS.out _).mono ?_
        rintro e w4 ⟨vn, rfl, hN, hb4⟩
        obtain ⟨pn, ln, cn, rfl⟩ := hN.form
        have HN4 := Lib.hid hN
        have HX4 := Lib.hid (HX1.out.below hb4 HX1.out.lt)
        have HB4 := Lib.hid (HB1.out.trans (hb4.mono HB1.out.size))
        clear hN hb4
        go_wp2_with fail
        refine (rparts_any t ht HDT.out _).mono ?_
        rintro e w5 ⟨vd, rfl, hD, hb5⟩
        obtain ⟨pd, ld, cd, rfl⟩ := hD.form
        have HD5 := Lib.hid hD
        have HN5 := Lib.hid (HN4.out.after hb5 (Nat.le_refl _))
        have HX5 := Lib.hid (HX4.out.below hb5 HX4.out.lt)
        have HB5 := Lib.hid (HB4.out.trans (hb5.mono HB4.out.size))
        clear hD hb5
        go_wp2_with fail
        refine (made_any HN5.out HD5.out (Nat.le_trans HL.out.1 (by decide)) (Nat.le_trans HL.out.2 (by decide)) (Nat.pos_of_ne_zero H0.out)).mono ?_
        rintro e w6 ⟨x, y, n, rfl, hR, hb6⟩
        have HR := Lib.hid hR
        have HX6 := Lib.hid (HX5.out.below hb6 HX5.out.lt)
        have HB6 := Lib.hid (HB5.out.trans (hb6.mono HB5.out.size))
        clear hR hb6
        have r0 := HX6.out.cell 0 0 (b := w.heap.size) rfl rfl rfl
        have r1 := HX6.out.cell 0 1 (b := w.heap.size) rfl rfl rfl
        have f0 := HX6.out.free 0 0 (b := w.heap.size) rfl rfl
        have f1 := HX6.out.free 0 1 (b := w.heap.size) rfl rfl
        go_wp2
        have q := two_put_cells (HX6.out.block 0 (b := w.heap.size) rfl rfl) (.string x) (.string y)
        have HBQ := Lib.hid (two_put_below HB6.out (b := w.heap.size) (by omega) (.string x) (.string y))
        obtain ⟨w9, hw9⟩ : ∃ w9, (w6.setCell ⟨w.heap.size, 0, none⟩ (.string x)).setCell ⟨w.heap.size, 1, none⟩ (.string y) = w9 := ⟨_, rfl⟩
        rw [hw9] at q HBQ
        obtain ⟨q0, q1⟩ := q
        rw [hw9]
        clear r0 r1 f0 f1 hw9
        go_wp2
        refine bodyPost_ret (v := .tuple #[.agg #[.string x, .string y], .int .i64 n]) (by simp [results, Tryz.f99, go_sem, q0, q1]) rfl ⟨_, _, _, rfl, ?_, HBQ.out⟩
        exact .inr (.inr ⟨by rw [H1.out, H2.out]; rfl, Nat.pos_of_ne_zero H0.out, HR.out⟩)

set_option maxRecDepth 100000 in
set_option maxHeartbeats 4000000 in
theorem rof_any (n : Int) (h0 : -9223372036854775808 ≤ n) (h1 : n ≤ 9223372036854775807) (w : World) :
    Calls Tryz.prog 98 #[.int .i64 n] w (OfPost n w) := by
  obtain ⟨i0, hi, hz0, hz1, hz2⟩ := info_parts info_int
  by_cases hn : n < 0
  · go_enter Tryz.func98, Tryz.ntmps98
    go_wp2
    go_ret2
    exact ⟨_, _, rfl, .inl ⟨hn, rfl, rfl⟩, Below.refl _ _⟩
  · obtain ⟨m, rfl⟩ : ∃ m : Nat, n = m := ⟨n.toNat, by omega⟩
    have hl6 : (limbs 10000 m).length ≤ 6 := limbs_length_le (by omega) (by omega)
    have HL6 := Lib.hid hl6
    clear h0 hl6
    go_enter Tryz.func98, Tryz.ntmps98
    go_wp2
    go_loopw [0, 4] (fun vn vo wr => ∃ (j k : Nat) (out : List Nat), vn = .int .i64 j ∧ j ≤ 9223372036854775807 ∧ k ≤ 6 ∧ Hid (limbs 10000 m = out ++ limbs 10000 j) ∧ Hid (Grow .i64 3 wr w.heap.size vo out) ∧ Hid (out.length = k) ∧ Hid (Below w.heap.size w wr)) (fun vn _ _ => (intOf vn).toNat)
    case atStart => exact ⟨m, 0, [], rfl, by omega, by omega, by show _ = _; simp, Grow.nil, rfl, Below.refl _ _⟩
    case round =>
      obtain ⟨j, k, out, rfl, hj, hk6, HI, HO, HLEN, HB⟩ := hrel
      obtain ⟨po, no, co, rfl⟩ : ∃ p n c, u4 = .slice p n c := by obtain ⟨q, c, h⟩ := HO.out.form; exact ⟨_, _, _, h⟩
      by_cases hgo : 0 < j
      · have hgo' : (0 : Int) < j := by omega
        have hm1 : k + 1 ≤ maxLen := by unfold maxLen; omega
        have hm2 : (k + 1) * 8 ≤ 140737488355328 := by omega
        have HI2 : Hid (limbs 10000 m = (out ++ [j % 10000]) ++ limbs 10000 (j / 10000)) := by
          show _ = _
          rw [HI.out, limbs_pos (by omega) hgo]; simp
        have HK7 : Hid (k + 1 ≤ 6) := by
          have h2 := congrArg List.length HI2.out
          have h3 := HL6.out
          have h4 := HLEN.out
          simp at h2
          show _ ≤ _
          omega
        have E1 : Hid ((j : Int) % 10000 = ((j % 10000 : Nat) : Int)) := by show _ = _; omega
        have E2 : Hid ((j : Int) / 10000 = ((j / 10000 : Nat) : Int)) := by show _ = _; omega
        have HJ : Hid (j / 10000 < j ∧ j / 10000 ≤ 9223372036854775807) := ⟨by omega, by omega⟩
        clear hgo
        have hown : wr.ownsRow w.heap.size 3 1 (.slice po no co) k ((out).map fun x => Value.int .i64 (x : Nat)) := by
          have := HO.out; unfold Grow at this; rwa [HLEN.out] at this
        have hsz := HB.out.size
        have hownA := hown.alloc (.cells #[.int .i64 ((j : Int) % 10000)] 3)
        have hm3 : w.heap.size ≤ (wr.alloc (.cells #[.int .i64 ((j : Int) % 10000)] 3)).heap.size := by simp; omega
        go_wp2_with (at_builtin; go_loud (refine wpList_append_own _ rfl _ _ 142 rfl w.heap.size 3 i0 (.int .i64 0) 1 8 Tryz.underlying142 hi hz0 hz1 hz2 rfl (by decide) _ k _ rfl hownA ⟨wr.heap.size, 0, none⟩ 1 1 [.int .i64 ((j : Int) % 10000)] rfl rfl (cell_one_new _ _ _) (by simp [Value.oneCell']) hm1 hm2 hm3 ?_); intro v' w1 hown1 hgrow1 _)
        have HG : Hid (Grow .i64 3 w1 w.heap.size v' (out ++ [j % 10000])) := Grow.snoc HLEN.out E1.out hown1
        have HB1 : Hid (Below w.heap.size w w1) := (HB.out.alloc hsz _).grown hgrow1 hm3 (fun z hz => (World.ownsRow.lt hownA z hz).1)
        clear hown hownA hown1 hgrow1
        go_roundw
        case rel => exact ⟨j / 10000, k + 1, _, by rw [E2.out], HJ.out.2, HK7.out, HI2, HG, by show _ = _; rw [List.length_append, HLEN.out]; rfl, HB1⟩
        case measure => rw [E2.out]; have := HJ.out; simp [intOf]; omega
      · obtain rfl : j = 0 := by omega
        have HE : Hid (out = limbs 10000 m) := by show _ = _; rw [HI.out, limbs_zero]; simp
        have HP : Hid (PNum wr (.slice po no co) m) := by
          have := HO.out.nums
          rw [HE.out] at this
          exact ⟨this, HO.out.pform⟩
        clear hgo
        go_wp2_with fail
        refine (rnatOf_any HP.out (Nat.le_trans HL6.out (by decide))).mono ?_
        rintro e w5 ⟨rfl, hb5⟩
        have HB5 := Lib.hid (HB.out.trans (hb5.mono HB.out.size))
        obtain ⟨s, hs⟩ : ∃ s, str (Lib.decDigits m) = s := ⟨_, rfl⟩
        rw [hs]
        have HS := Lib.hid hs
        clear hb5 hs
        go_wp2
        go_ret2
        exact ⟨_, _, rfl, .inr ⟨by omega, by rw [← HS.out]; rfl, rfl⟩, HB5.out⟩
end Go.Proofs.YtcncdepjbhnknaaGreatDoor
/- The document's Ratio, Int. -/
namespace Go.Proofs.YtcncdepjbhnknaaGreatDoor
open Go.RowKit Go.Shelf



set_option maxRecDepth 100000 in
set_option maxHeartbeats 4000000 in
theorem rratio_any (a b : Int) (ha0 : -9223372036854775808 ≤ a) (ha1 : a ≤ 9223372036854775807) (hb0 : -9223372036854775808 ≤ b) (hb1 : b ≤ 9223372036854775807) (w : World) :
    Calls Tryz.prog 52 #[.int .i64 a, .int .i64 b] w (PartPost (RatioR a b) w) := by
  by_cases g1 : a < 0
  · skip
    have HB1 : Hid (Below w.heap.size w (w.alloc (.cells #[.string ⟨#[]⟩, .string ⟨#[]⟩] 46))) := (Below.refl _ w).alloc (Nat.le_refl _) _
    have c0 : (w.alloc (.cells #[.string ⟨#[]⟩, .string ⟨#[]⟩] 46)).cell? ⟨w.heap.size, 0, none⟩ = some (.string ⟨#[]⟩) := cell_new _ _ _ 0 rfl
    have c1 : (w.alloc (.cells #[.string ⟨#[]⟩, .string ⟨#[]⟩] 46)).cell? ⟨w.heap.size, 1, none⟩ = some (.string ⟨#[]⟩) := cell_new _ _ _ 1 rfl
    go_enter Tryz.func52, Tryz.ntmps52
    go_wp2
    refine bodyPost_ret (v := .tuple #[.agg #[.string ⟨#[]⟩, .string ⟨#[]⟩], .int .i64 11]) (by simp [results, Tryz.f52, go_sem, c0, c1]) rfl ⟨_, _, _, rfl, ?_, HB1.out⟩
    exact .inl ⟨.inl g1, rfl, rfl, rfl⟩
  by_cases g2 : b < 0
  · skip
    have HB1 : Hid (Below w.heap.size w (w.alloc (.cells #[.string ⟨#[]⟩, .string ⟨#[]⟩] 46))) := (Below.refl _ w).alloc (Nat.le_refl _) _
    have c0 : (w.alloc (.cells #[.string ⟨#[]⟩, .string ⟨#[]⟩] 46)).cell? ⟨w.heap.size, 0, none⟩ = some (.string ⟨#[]⟩) := cell_new _ _ _ 0 rfl
    have c1 : (w.alloc (.cells #[.string ⟨#[]⟩, .string ⟨#[]⟩] 46)).cell? ⟨w.heap.size, 1, none⟩ = some (.string ⟨#[]⟩) := cell_new _ _ _ 1 rfl
    go_enter Tryz.func52, Tryz.ntmps52
    go_wp2
    refine bodyPost_ret (v := .tuple #[.agg #[.string ⟨#[]⟩, .string ⟨#[]⟩], .int .i64 11]) (by simp [results, Tryz.f52, go_sem, c0, c1]) rfl ⟨_, _, _, rfl, ?_, HB1.out⟩
    exact .inl ⟨.inr g2, rfl, rfl, rfl⟩
  by_cases g3 : b = 0
  · subst g3
    have HB1 : Hid (Below w.heap.size w (w.alloc (.cells #[.string ⟨#[]⟩, .string ⟨#[]⟩] 46))) := (Below.refl _ w).alloc (Nat.le_refl _) _
    have c0 : (w.alloc (.cells #[.string ⟨#[]⟩, .string ⟨#[]⟩] 46)).cell? ⟨w.heap.size, 0, none⟩ = some (.string ⟨#[]⟩) := cell_new _ _ _ 0 rfl
    have c1 : (w.alloc (.cells #[.string ⟨#[]⟩, .string ⟨#[]⟩] 46)).cell? ⟨w.heap.size, 1, none⟩ = some (.string ⟨#[]⟩) := cell_new _ _ _ 1 rfl
    go_enter Tryz.func52, Tryz.ntmps52
    go_wp2
    refine bodyPost_ret (v := .tuple #[.agg #[.string ⟨#[]⟩, .string ⟨#[]⟩], .int .i64 10]) (by simp [results, Tryz.f52, go_sem, c0, c1]) rfl ⟨_, _, _, rfl, ?_, HB1.out⟩
    exact .inr (.inl ⟨by omega, rfl, rfl, rfl, rfl⟩)
  have g4 : (b == 0) = false := by rw [beq_eq_false_iff_ne]; exact g3
  have HA := Lib.hid (rof_any a ha0 ha1)
  have HBB := Lib.hid (rof_any b hb0 hb1)
  have HG : Hid (0 ≤ a ∧ 0 ≤ b ∧ a ≤ 9223372036854775807 ∧ b ≤ 9223372036854775807) := ⟨by omega, by omega, ha1, hb1⟩
  go_enter Tryz.func52, Tryz.ntmps52
  go_wp2_with fail
  obtain ⟨w1, hw1⟩ : ∃ w1, w.alloc (.cells #[.string ⟨#[]⟩, .string ⟨#[]⟩] 46) = w1 := ⟨_, rfl⟩
  rw [hw1]
  have HX1 : Hid (Boxes w.heap.size [.cells #[.string ⟨#[]⟩, .string ⟨#[]⟩] 46] w1) := by rw [← hw1]; exact Boxes.one w _
  have HB1 : Hid (Below w.heap.size w w1) := by rw [← hw1]; exact (Below.refl _ w).alloc (Nat.le_refl _) _
  clear hw1
  refine (HA.out _).mono ?_
  rintro e w2 ⟨s, r1, rfl, hR1, hb2⟩
  obtain ⟨hs, rfl⟩ : s = str (Lib.decDigits a.toNat) ∧ r1 = 0 := by
    rcases hR1 with ⟨h, _⟩ | ⟨_, h1, h2⟩
    · omega
    · exact ⟨h1, h2⟩
  have HX2 := Lib.hid (HX1.out.below hb2 HX1.out.lt)
  have HB2 := Lib.hid (HB1.out.trans (hb2.mono HB1.out.size))
  have HS := Lib.hid hs
  clear hb2 hR1 hs
  go_wp2_with fail
  refine (HBB.out _).mono ?_
  rintro e w3 ⟨t, r2, rfl, hR2, hb3⟩
  obtain ⟨ht, rfl⟩ : t = str (Lib.decDigits b.toNat) ∧ r2 = 0 := by
    rcases hR2 with ⟨h, _⟩ | ⟨_, h1, h2⟩
    · omega
    · exact ⟨h1, h2⟩
  have HX3 := Lib.hid (HX2.out.below hb3 HX2.out.lt)
  have HB3 := Lib.hid (HB2.out.trans (hb3.mono HB2.out.size))
  have HT := Lib.hid ht
  clear hb3 hR2 ht
  have hss : s.size ≤ 1000000 := by rw [HS.out, str_size]; have := i64_pow ha1; omega
  have hts : t.size ≤ 1000000 := by rw [HT.out, str_size]; have := i64_pow hb1; omega
  have HM := Lib.hid (rmake_any s t w3 hss hts)
  clear hss hts
  go_wp2_with fail
  refine HM.out.mono ?_
  rintro e w6 ⟨x, y, n, rfl, hR, hb6⟩
  have HR := Lib.hid (ratio_made HG.out.1 HG.out.2.1 HG.out.2.2.1 HG.out.2.2.2 HS.out HT.out hR)
  have HX6 := Lib.hid (HX3.out.below hb6 HX3.out.lt)
  have HB6 := Lib.hid (HB3.out.trans (hb6.mono HB3.out.size))
  clear hR hb6
  have r0 := HX6.out.cell 0 0 (b := w.heap.size) rfl rfl rfl
  have r1 := HX6.out.cell 0 1 (b := w.heap.size) rfl rfl rfl
  have f0 := HX6.out.free 0 0 (b := w.heap.size) rfl rfl
  have f1 := HX6.out.free 0 1 (b := w.heap.size) rfl rfl
  go_wp2
  have q := two_put_cells (HX6.out.block 0 (b := w.heap.size) rfl rfl) (.string x) (.string y)
  have HBQ := Lib.hid (two_put_below HB6.out (b := w.heap.size) (by omega) (.string x) (.string y))
  obtain ⟨w9, hw9⟩ : ∃ w9, (w6.setCell ⟨w.heap.size, 0, none⟩ (.string x)).setCell ⟨w.heap.size, 1, none⟩ (.string y) = w9 := ⟨_, rfl⟩
  rw [hw9] at q HBQ
  obtain ⟨q0, q1⟩ := q
  rw [hw9]
  clear r0 r1 f0 f1 hw9
  go_wp2
  refine bodyPost_ret (v := .tuple #[.agg #[.string x, .string y], .int .i64 n]) (by simp [results, Tryz.f52, go_sem, q0, q1]) rfl ⟨_, _, _, rfl, ?_, HBQ.out⟩
  exact HR.out

/-- What Int answers: the integer, the error. -/
def intA (s : ByteArray) : Int := if natOk s.data.toList = true ∧ decVal s.data.toList ≤ 4611686018427387904 then (decVal s.data.toList : Nat) else 0
def intE (s : ByteArray) : Int := if natOk s.data.toList = true then (if decVal s.data.toList ≤ 4611686018427387904 then 0 else 4) else 2
theorem int_no {s : ByteArray} (h : natOk s.data.toList = false) : intA s = 0 ∧ intE s = 2 := by unfold intA intE; rw [h]; exact ⟨rfl, rfl⟩
theorem int_far {s : ByteArray} (h : natOk s.data.toList = true) (h2 : 4611686018427387904 < decVal s.data.toList) : intA s = 0 ∧ intE s = 4 := by
  unfold intA intE
  rw [if_neg (by rw [h]; omega), if_pos h, if_neg (by omega)]; exact ⟨rfl, rfl⟩
theorem int_yes {s : ByteArray} (h : natOk s.data.toList = true) (h2 : decVal s.data.toList ≤ 4611686018427387904) : intA s = (decVal s.data.toList : Nat) ∧ intE s = 0 := by
  unfold intA intE
  rw [if_pos ⟨h, h2⟩, if_pos h, if_pos h2]; exact ⟨rfl, rfl⟩
def IntOf (s : ByteArray) (w : World) (e : Ending) (w' : World) : Prop := e = .returned (.tuple #[.int .i64 (intA s), .int .i64 (intE s)]) ∧ Below w.heap.size w w'
theorem val_drop_le (B : Nat) (hB : 0 < B) : ∀ (l : List Nat) (k : Nat), val B (l.drop k) ≤ val B l
  | l, 0 => by simp
  | [], k + 1 => by simp
  | x :: l, k + 1 => by
    have h1 := val_drop_le B hB l k
    have h2 : val B l * 1 ≤ val B l * B := Nat.mul_le_mul_left _ hB
    rw [List.drop_succ_cons, val_cons, Nat.mul_comm]
    omega
theorem most_val : decVal (⟨#[52, 54, 49, 49, 54, 56, 54, 48, 49, 56, 52, 50, 55, 51, 56, 55, 57, 48, 52]⟩ : ByteArray).data.toList = 4611686018427387904 := by decide +kernel
theorem most_dig : ∀ c ∈ (⟨#[52, 54, 49, 49, 54, 56, 54, 48, 49, 56, 52, 50, 55, 51, 56, 55, 57, 48, 52]⟩ : ByteArray).data.toList, isDig c = true := by decide +kernel

end Go.Proofs.YtcncdepjbhnknaaGreatDoor
/- Layer 6: the document's operations upon known fractions; its small, deep, Sure, in, slope. -/
namespace Go.Proofs.YtcncdepjbhnknaaGreatDoor
open Go.RowKit Go.Shelf
attribute [local go_sem ↓] Go.wp_at_zero Go.wp_at_succ

set_option maxRecDepth 100000 in
theorem rzero_any (w : World) : Calls Tryz.prog 87 #[] w (ValPost (pV ⟨#[48]⟩ ⟨#[49]⟩) w) := by
  go_enter Tryz.func87, Tryz.ntmps87
  go_wp2
  have HB1 : Hid (Below w.heap.size w (w.alloc (pObj ⟨#[48]⟩ ⟨#[49]⟩))) := (Below.refl _ w).alloc (Nat.le_refl _) _
  have c0 := cell_new w #[.string ⟨#[48]⟩, .string ⟨#[49]⟩] 46 0 rfl
  have c1 := cell_new w #[.string ⟨#[48]⟩, .string ⟨#[49]⟩] 46 1 rfl
  refine bodyPost_ret (v := pV ⟨#[48]⟩ ⟨#[49]⟩) (by simp [results, Tryz.f87, go_sem, c0, c1]) rfl ⟨rfl, HB1.out⟩
theorem radd_to {q r p : Rat} {s t u v x y : ByteArray} (ha : IsP q s t) (hb : IsP r u v) (hx : IsP p x y) (hq : q + r = p) (w : World) :
    Calls Tryz.prog 83 #[pV s t, pV u v] w (ValPost (.tuple #[pV x y, .int .i64 0]) w) := by
  refine (radd_rat s t u v w ha.le.1 ha.le.2 hb.le.1 hb.le.2).mono ?_
  rintro e w' ⟨x', y', n, rfl, h, hbb⟩
  rcases h with ⟨h, _⟩ | ⟨_, h⟩
  · rw [ha.oks hb] at h; cases h
  · rw [ha.rat, hb.rat] at h
    obtain ⟨rfl, rfl, rfl⟩ := ans_to h hx hq
    exact ⟨rfl, hbb⟩
theorem rmul_to {q r p : Rat} {s t u v x y : ByteArray} (ha : IsP q s t) (hb : IsP r u v) (hx : IsP p x y) (hq : q * r = p) (w : World) :
    Calls Tryz.prog 78 #[pV s t, pV u v] w (ValPost (.tuple #[pV x y, .int .i64 0]) w) := by
  refine (rmul_rat s t u v w ha.le.1 ha.le.2 hb.le.1 hb.le.2).mono ?_
  rintro e w' ⟨x', y', n, rfl, h, hbb⟩
  rcases h with ⟨h, _⟩ | ⟨_, h⟩
  · rw [ha.oks hb] at h; cases h
  · rw [ha.rat, hb.rat] at h
    obtain ⟨rfl, rfl, rfl⟩ := ans_to h hx hq
    exact ⟨rfl, hbb⟩
theorem rsub_to {q r p : Rat} {s t u v x y : ByteArray} (ha : IsP q s t) (hb : IsP r u v) (hx : IsP p x y) (hq : q - r = p) (w : World) :
    Calls Tryz.prog 82 #[pV s t, pV u v] w (ValPost (.tuple #[pV x y, .int .i64 0]) w) := by
  refine (rsub_rat s t u v w ha.le.1 ha.le.2 hb.le.1 hb.le.2).mono ?_
  rintro e w' ⟨x', y', n, rfl, h, hbb⟩
  rcases h with ⟨h, _⟩ | ⟨_, h⟩
  · rw [ha.oks hb] at h; cases h
  · rw [ha.rat, hb.rat] at h
    rcases h with ⟨h, _⟩ | ⟨_, h⟩
    · have := hx.nn; grind
    · obtain ⟨rfl, rfl, rfl⟩ := ans_to h hx hq
      exact ⟨rfl, hbb⟩
theorem rdiv_to {q r p : Rat} {s t u v x y : ByteArray} (ha : IsP q s t) (hb : IsP r u v) (hx : IsP p x y) (h0 : 0 < r) (hq : q / r = p) (w : World) :
    Calls Tryz.prog 89 #[pV s t, pV u v] w (ValPost (.tuple #[pV x y, .int .i64 0]) w) := by
  refine (rdiv_rat s t u v w ha.le.1 ha.le.2 hb.le.1 hb.le.2).mono ?_
  rintro e w' ⟨x', y', n, rfl, h, hbb⟩
  rcases h with ⟨h, _⟩ | ⟨_, h⟩
  · rw [ha.oks hb] at h; cases h
  · rw [ha.rat, hb.rat] at h
    rcases h with ⟨h, _⟩ | ⟨_, h⟩
    · grind
    · obtain ⟨rfl, rfl, rfl⟩ := ans_to h hx hq
      exact ⟨rfl, hbb⟩
theorem rcmp_to {q r : Rat} {n : Int} {s t u v : ByteArray} (ha : IsP q s t) (hb : IsP r u v) (hn : sgnR q r = n) (w : World) :
    Calls Tryz.prog 88 #[pV s t, pV u v] w (ValPost (.int .i64 n) w) := by
  refine (rcompare_rat s t u v w ha.le.1 ha.le.2 hb.le.1 hb.le.2).mono ?_
  rintro e w' ⟨m, rfl, h, hbb⟩
  rcases h with ⟨h, _⟩ | ⟨_, h⟩
  · rw [ha.oks hb] at h; cases h
  · rw [ha.rat, hb.rat, hn] at h
    subst h
    exact ⟨rfl, hbb⟩
set_option maxRecDepth 100000 in
theorem rsure_any (s t : ByteArray) (n : Int) (w : World) : Calls Tryz.prog 81 #[pV s t, .int .i64 n] w (ValPost (pV s t) w) := by
  go_enter Tryz.func81, Tryz.ntmps81
  go_wp2
  have HB1 : Hid (Below w.heap.size w ((w.alloc (pObj s t)).alloc (pObj s t))) := ((Below.refl _ w).alloc (Nat.le_refl _) _).alloc (by simp) _
  have c0 := cell_new (w.alloc (pObj s t)) #[.string s, .string t] 46 (b := w.heap.size + 1) 0 (by simp)
  have c1 := cell_new (w.alloc (pObj s t)) #[.string s, .string t] 46 (b := w.heap.size + 1) 1 (by simp)
  refine bodyPost_ret (v := pV s t) (by simp [results, Tryz.f81, go_sem, c0, c1]) rfl ⟨rfl, ?_⟩
  first | exact HB1.out | (have h := HB1.out; simpa using h)
set_option maxRecDepth 100000 in
theorem rin_any (n low high : Int) (w : World) : Calls Tryz.prog 51 #[.int .i64 n, .int .i64 low, .int .i64 high] w (BoolPost w (decide (low ≤ n) && decide (n ≤ high))) := by
  by_cases h1 : low ≤ n
  · by_cases h2 : n ≤ high
    · go_enter Tryz.func51, Tryz.ntmps51
      go_wp2
      go_ret
      exact ⟨by simp [h1, h2], Below.refl _ _⟩
    · go_enter Tryz.func51, Tryz.ntmps51
      go_wp2
      go_ret
      exact ⟨by simp [h1, h2], Below.refl _ _⟩
  · go_enter Tryz.func51, Tryz.ntmps51
    go_wp2
    go_ret
    exact ⟨by rw [decide_eq_false (show ¬ low ≤ n by omega)]; rfl, Below.refl _ _⟩
set_option maxRecDepth 100000 in
set_option maxHeartbeats 1000000 in
theorem rsmall_any (s t : ByteArray) (hs : s.size ≤ 1000000) (ht : t.size ≤ 1000000) (w : World) : Calls Tryz.prog 105 #[pV s t] w (BoolPost w (smallP 18 (s, t))) := by
  obtain ⟨r, hr⟩ : ∃ r, smallP 18 (s, t) = r := ⟨_, rfl⟩
  have hal := (Below.refl w.heap.size w).alloc (Nat.le_refl _) (pObj s t)
  have HAL := Lib.hid hal
  by_cases h1 : (s.size : Int) ≤ 18
  · by_cases h2 : (t.size : Int) ≤ 18
    · cases h3 : okP s t
      · have HR : Hid (smallP 18 (s, t) = false) := by unfold smallP; show _ = _; simp [h3]
        have HE := Lib.hid (okE_no h3)
        clear h3 hr hal
        go_enter Tryz.func105, Tryz.ntmps105
        go_wp2_with fail
        refine (rcheck_any s t _ hs ht).mono ?_
        rintro e w2 ⟨rfl, hb⟩
        rw [HE.out]
        have HB := Lib.hid (HAL.out.trans (hb.mono HAL.out.size))
        clear hb
        go_wp2
        go_ret
        exact ⟨by rw [HR.out]; rfl, HB.out⟩
      · have HR : Hid (smallP 18 (s, t) = true) := by unfold smallP; show _ = _; simp [h3]; omega
        have HE := Lib.hid (okE_yes h3)
        clear h3 hr hal
        go_enter Tryz.func105, Tryz.ntmps105
        go_wp2_with fail
        refine (rcheck_any s t _ hs ht).mono ?_
        rintro e w2 ⟨rfl, hb⟩
        rw [HE.out]
        have HB := Lib.hid (HAL.out.trans (hb.mono HAL.out.size))
        clear hb
        go_wp2
        go_ret
        exact ⟨by rw [HR.out]; rfl, HB.out⟩
    · have HR : Hid (smallP 18 (s, t) = false) := by
        show _ = _
        unfold smallP
        rw [decide_eq_false (p := (s, t).2.size ≤ 18) (by show ¬ t.size ≤ 18; omega)]
        simp
      clear hr hal
      go_enter Tryz.func105, Tryz.ntmps105
      go_wp2
      go_ret
      exact ⟨by rw [HR.out]; rfl, HAL.out⟩
  · have HR : Hid (smallP 18 (s, t) = false) := by
      show _ = _
      unfold smallP
      rw [decide_eq_false (p := (s, t).1.size ≤ 18) (by show ¬ s.size ≤ 18; omega)]
      simp
    clear hr hal
    go_enter Tryz.func105, Tryz.ntmps105
    go_wp2
    go_ret
    exact ⟨by rw [HR.out]; rfl, HAL.out⟩
set_option maxRecDepth 100000 in
set_option maxHeartbeats 1000000 in
theorem rdeep_any (s t : ByteArray) (hs : s.size ≤ 1000000) (ht : t.size ≤ 1000000) (w : World) : Calls Tryz.prog 79 #[pV s t] w (BoolPost w (smallP 300 (s, t))) := by
  obtain ⟨r, hr⟩ : ∃ r, smallP 300 (s, t) = r := ⟨_, rfl⟩
  have hal := (Below.refl w.heap.size w).alloc (Nat.le_refl _) (pObj s t)
  have HAL := Lib.hid hal
  by_cases h1 : (s.size : Int) ≤ 300
  · by_cases h2 : (t.size : Int) ≤ 300
    · cases h3 : okP s t
      · have HR : Hid (smallP 300 (s, t) = false) := by unfold smallP; show _ = _; simp [h3]
        have HE := Lib.hid (okE_no h3)
        clear h3 hr hal
        go_enter Tryz.func79, Tryz.ntmps79
        go_wp2_with fail
        refine (rcheck_any s t _ hs ht).mono ?_
        rintro e w2 ⟨rfl, hb⟩
        rw [HE.out]
        have HB := Lib.hid (HAL.out.trans (hb.mono HAL.out.size))
        clear hb
        go_wp2
        go_ret
        exact ⟨by rw [HR.out]; rfl, HB.out⟩
      · have HR : Hid (smallP 300 (s, t) = true) := by unfold smallP; show _ = _; simp [h3]; omega
        have HE := Lib.hid (okE_yes h3)
        clear h3 hr hal
        go_enter Tryz.func79, Tryz.ntmps79
        go_wp2_with fail
        refine (rcheck_any s t _ hs ht).mono ?_
        rintro e w2 ⟨rfl, hb⟩
        rw [HE.out]
        have HB := Lib.hid (HAL.out.trans (hb.mono HAL.out.size))
        clear hb
        go_wp2
        go_ret
        exact ⟨by rw [HR.out]; rfl, HB.out⟩
    · have HR : Hid (smallP 300 (s, t) = false) := by
        show _ = _
        unfold smallP
        rw [decide_eq_false (p := (s, t).2.size ≤ 300) (by show ¬ t.size ≤ 300; omega)]
        simp
      clear hr hal
      go_enter Tryz.func79, Tryz.ntmps79
      go_wp2
      go_ret
      exact ⟨by rw [HR.out]; rfl, HAL.out⟩
  · have HR : Hid (smallP 300 (s, t) = false) := by
      show _ = _
      unfold smallP
      rw [decide_eq_false (p := (s, t).1.size ≤ 300) (by show ¬ s.size ≤ 300; omega)]
      simp
    clear hr hal
    go_enter Tryz.func79, Tryz.ntmps79
    go_wp2
    go_ret
    exact ⟨by rw [HR.out]; rfl, HAL.out⟩

theorem bool_is {w w' : World} {e : Ending} {b c : Bool} (h : BoolPost w b e w') (hb : b = c) : BoolPost w c e w' := hb ▸ h
end Go.Proofs.YtcncdepjbhnknaaGreatDoor
/- The coverage of an effort, in plain words; ratios with a known answer. -/
namespace Go.Proofs.YtcncdepjbhnknaaGreatDoor
open Go.RowKit Go.Shelf

/-- Are the numbers within their bounds? -/
def coverIn (w s t a : Int) : Prop := (0 ≤ w ∧ w ≤ 100000) ∧ (0 ≤ s ∧ s ≤ 1048576) ∧ (0 ≤ t ∧ t ≤ 1048576) ∧ (1 ≤ a ∧ a ≤ 1125899906842624)
def coverQ (w s t a : Int) : Rat := mkRat (w * s * t) (a.toNat * 1000)
theorem coverIn.prod {w s t a : Int} (h : coverIn w s t a) : 0 ≤ w * s ∧ w * s ≤ 104857600000 := by
  obtain ⟨h1, h2, _⟩ := h
  refine ⟨Int.mul_nonneg h1.1 h2.1, ?_⟩
  have := Int.mul_le_mul h1.2 h2.2 h2.1 (by omega)
  omega
theorem nat_int {x : Int} (h : 0 ≤ x) : ((x.toNat : Nat) : Int) = x := by omega
theorem coverIn.prog {w s t a : Int} (h : coverIn w s t a) : mkRat ((w * s).toNat : Nat) a.toNat * mkRat (t.toNat : Nat) 1000 = coverQ w s t a := by
  unfold coverQ
  rw [Rat.mkRat_mul_mkRat, nat_int h.prod.1, nat_int h.2.2.1.1]
theorem coverIn.docu {w s t a : Int} (h : coverIn w s t a) : mkRat ((w * s).toNat : Nat) 1000 * mkRat (t.toNat : Nat) a.toNat = coverQ w s t a := by
  unfold coverQ
  rw [Rat.mkRat_mul_mkRat, nat_int h.prod.1, nat_int h.2.2.1.1, Nat.mul_comm 1000]
def CoverA (w s t a : Int) (x y : ByteArray) (n : Int) : Prop := (¬ coverIn w s t a ∧ x = ⟨#[]⟩ ∧ y = ⟨#[]⟩ ∧ n = 2) ∨ (coverIn w s t a ∧ IsP (coverQ w s t a) x y ∧ n = 0)
theorem CoverA.det {w s t a : Int} {x y u v : ByteArray} {n m : Int} (h : CoverA w s t a x y n) (g : CoverA w s t a u v m) : x = u ∧ y = v ∧ n = m := by
  rcases h with ⟨h, rfl, rfl, rfl⟩ | ⟨h, h1, rfl⟩ <;> rcases g with ⟨g, rfl, rfl, rfl⟩ | ⟨g, g1, rfl⟩
  · exact ⟨rfl, rfl, rfl⟩
  · exact absurd g h
  · exact absurd h g
  · exact ⟨(h1.one g1).1, (h1.one g1).2, rfl⟩
/-- A ratio of numbers that are not great. -/
theorem ratio_isP (n d : Nat) (hd : 0 < d) (h1 : n < 10 ^ 18) (h2 : d < 10 ^ 18) : (∃ x y, IsP (mkRat (n : Nat) d) x y) ∧ Sz 18 (mkRat (n : Nat) d) ∧ 0 ≤ mkRat (n : Nat) d := by
  have h0 : 0 ≤ mkRat (n : Nat) d := mkRat_nonneg n d
  have hz := Sz.mk hd h1 h2
  exact ⟨sz_isP h0 hz (by decide) (by decide), hz, h0⟩
theorem mul_isP {a b : Rat} (ha : 0 ≤ a) (hb : 0 ≤ b) (h1 : Sz 18 a) (h2 : Sz 18 b) : ∃ x y, IsP (a * b) x y := sz_isP (Rat.mul_nonneg ha hb) (Sz.mul ha hb h1 h2) (by decide) (by decide)
theorem ratio_to {a b : Int} {x y : ByteArray} (ha : 0 ≤ a) (hb : 0 < b) (ha1 : a ≤ 9223372036854775807) (hb1 : b ≤ 9223372036854775807) (hx : IsP (mkRat (a.toNat : Nat) b.toNat) x y) (w : World)(hT : Tabs w) :
    Calls Tryz.prog 72 #[.int .i64 a, .int .i64 b] w (ValPost (.tuple #[pV x y, .int .i64 0]) w) := by
  refine (ratio_any a b (by omega) ha1 (by omega) hb1 w hT).mono ?_
  rintro e w' ⟨u, v, n, rfl, h, hb2⟩
  rcases h with ⟨h, _⟩ | ⟨_, h, _⟩ | ⟨_, _, h⟩
  · omega
  · omega
  · obtain ⟨rfl, rfl, rfl⟩ := ans_to h hx rfl
    exact ⟨rfl, hb2⟩
theorem rratio_to {a b : Int} {x y : ByteArray} (ha : 0 ≤ a) (hb : 0 < b) (ha1 : a ≤ 9223372036854775807) (hb1 : b ≤ 9223372036854775807) (hx : IsP (mkRat (a.toNat : Nat) b.toNat) x y) (w : World) :
    Calls Tryz.prog 52 #[.int .i64 a, .int .i64 b] w (ValPost (.tuple #[pV x y, .int .i64 0]) w) := by
  refine (rratio_any a b (by omega) ha1 (by omega) hb1 w).mono ?_
  rintro e w' ⟨u, v, n, rfl, h, hb2⟩
  rcases h with ⟨h, _⟩ | ⟨_, h, _⟩ | ⟨_, _, h⟩
  · omega
  · omega
  · obtain ⟨rfl, rfl, rfl⟩ := ans_to h hx rfl
    exact ⟨rfl, hb2⟩
end Go.Proofs.YtcncdepjbhnknaaGreatDoor
/- The chapter's other examples, in plain words. -/
namespace Go.Proofs.YtcncdepjbhnknaaGreatDoor
open Go.RowKit Go.Shelf

theorem names_c {x y : ByteArray} {n : Int} (h : ChanceA (halvL 2) ⟨#[49]⟩ ⟨#[50]⟩ x y n) : x = ⟨#[49]⟩ ∧ y = ⟨#[52]⟩ ∧ n = 0 := by
  have e : ratP ⟨#[49]⟩ ⟨#[50]⟩ = mkRat 1 2 := by decide +kernel
  rcases h with ⟨h, _⟩ | ⟨_, h0, r, h1, h2⟩
  · exact absurd ⟨halv2_curve, by decide +kernel⟩ h
  · rw [e, halvL_len] at h1
    have hp : Piece 3 (cR (halvL 2)) (mkRat 1 2) 0 := by unfold Piece; decide +kernel
    have hr : ChanceR 3 (cR (halvL 2)) (hR (halvL 2)) (mkRat 1 2) (mkRat 1 4) := ⟨0, hp, by decide +kernel⟩
    obtain ⟨e1, e2⟩ := isP_one' h2 (isP_dec (q := mkRat 1 4) (s := ⟨#[49]⟩) (t := ⟨#[52]⟩) (by decide +kernel)) (h1.unique hr)
    exact ⟨e1, e2, h0⟩
theorem names_d {x y : ByteArray} {n : Int} (h : ChanceA (halvL 2) ⟨#[55]⟩ ⟨#[49]⟩ x y n) : x = ⟨#[51]⟩ ∧ y = ⟨#[52]⟩ ∧ n = 0 := by
  have e : ratP ⟨#[55]⟩ ⟨#[49]⟩ = mkRat 7 1 := by decide +kernel
  rcases h with ⟨h, _⟩ | ⟨_, h0, r, h1, h2⟩
  · exact absurd ⟨halv2_curve, by decide +kernel⟩ h
  · rw [e, halvL_len] at h1
    have hp : Piece 3 (cR (halvL 2)) (mkRat 7 1) 2 := by unfold Piece; decide +kernel
    have hr : ChanceR 3 (cR (halvL 2)) (hR (halvL 2)) (mkRat 7 1) (mkRat 3 4) := ⟨2, hp, by decide +kernel⟩
    obtain ⟨e1, e2⟩ := isP_one' h2 (isP_dec (q := mkRat 3 4) (s := ⟨#[51]⟩) (t := ⟨#[52]⟩) (by decide +kernel)) (h1.unique hr)
    exact ⟨e1, e2, h0⟩
theorem names_e {x y : ByteArray} {n : Int} (h : SlopeA (halvL 2) ⟨#[49]⟩ ⟨#[50]⟩ x y n) : x = ⟨#[49]⟩ ∧ y = ⟨#[50]⟩ ∧ n = 0 := by
  have e : ratP ⟨#[49]⟩ ⟨#[50]⟩ = mkRat 1 2 := by decide +kernel
  rcases h with ⟨h, _⟩ | ⟨_, h0, r, h1, h2⟩
  · exact absurd ⟨halv2_curve, by decide +kernel⟩ h
  · rw [e, halvL_len] at h1
    have hp : Piece 3 (cR (halvL 2)) (mkRat 1 2) 0 := by unfold Piece; decide +kernel
    have hr : SlopeR 3 (cR (halvL 2)) (hR (halvL 2)) (mkRat 1 2) (mkRat 1 2) := ⟨0, hp, by decide +kernel⟩
    obtain ⟨e1, e2⟩ := isP_one' h2 (isP_dec (q := mkRat 1 2) (s := ⟨#[49]⟩) (t := ⟨#[50]⟩) (by decide +kernel)) (h1.unique hr)
    exact ⟨e1, e2, h0⟩
theorem names_f {x y : ByteArray} {n : Int} (h : SlopeA (halvL 2) ⟨#[49]⟩ ⟨#[49]⟩ x y n) : x = ⟨#[49]⟩ ∧ y = ⟨#[52]⟩ ∧ n = 0 := by
  have e : ratP ⟨#[49]⟩ ⟨#[49]⟩ = mkRat 1 1 := by decide +kernel
  rcases h with ⟨h, _⟩ | ⟨_, h0, r, h1, h2⟩
  · exact absurd ⟨halv2_curve, by decide +kernel⟩ h
  · rw [e, halvL_len] at h1
    have hp : Piece 3 (cR (halvL 2)) (mkRat 1 1) 1 := by unfold Piece; decide +kernel
    have hr : SlopeR 3 (cR (halvL 2)) (hR (halvL 2)) (mkRat 1 1) (mkRat 1 4) := ⟨1, hp, by decide +kernel⟩
    obtain ⟨e1, e2⟩ := isP_one' h2 (isP_dec (q := mkRat 1 4) (s := ⟨#[49]⟩) (t := ⟨#[52]⟩) (by decide +kernel)) (h1.unique hr)
    exact ⟨e1, e2, h0⟩
theorem names_g {x y : ByteArray} {n : Int} (h : SlopeA (halvL 2) ⟨#[50]⟩ ⟨#[49]⟩ x y n) : x = ⟨#[48]⟩ ∧ y = ⟨#[49]⟩ ∧ n = 0 := by
  have e : ratP ⟨#[50]⟩ ⟨#[49]⟩ = mkRat 2 1 := by decide +kernel
  rcases h with ⟨h, _⟩ | ⟨_, h0, r, h1, h2⟩
  · exact absurd ⟨halv2_curve, by decide +kernel⟩ h
  · rw [e, halvL_len] at h1
    have hp : Piece 3 (cR (halvL 2)) (mkRat 2 1) 2 := by unfold Piece; decide +kernel
    have hr : SlopeR 3 (cR (halvL 2)) (hR (halvL 2)) (mkRat 2 1) (mkRat 0 1) := ⟨2, hp, by decide +kernel⟩
    obtain ⟨e1, e2⟩ := isP_one' h2 (isP_dec (q := mkRat 0 1) (s := ⟨#[48]⟩) (t := ⟨#[49]⟩) (by decide +kernel)) (h1.unique hr)
    exact ⟨e1, e2, h0⟩
theorem names_h {x y : ByteArray} {n : Int} (h : NeedA (halvL 2) ⟨#[52]⟩ ⟨#[53]⟩ x y n) : x = ⟨#[]⟩ ∧ y = ⟨#[]⟩ ∧ n = 7 := by
  have e : ratP ⟨#[52]⟩ ⟨#[53]⟩ = mkRat 4 5 := by decide +kernel
  rcases h with ⟨h, _⟩ | ⟨_, _, h1, h2, h3⟩ | ⟨h, h1, _⟩
  · exact absurd ⟨halv2_curve, by decide +kernel⟩ h
  · exact ⟨h1, h2, h3⟩
  · rw [e, halvL_len] at h1
    exact absurd h1 (by decide +kernel)
theorem names_i {x y : ByteArray} {n : Int} (h : MissP (halvL 2) [(⟨#[49]⟩, ⟨#[49]⟩), (⟨#[49]⟩, ⟨#[49]⟩)] x y n) : x = ⟨#[49]⟩ ∧ y = ⟨#[52]⟩ ∧ n = 0 := by
  rcases h with ⟨h, _⟩ | ⟨_, cs, h1, h2⟩
  · exact absurd ⟨⟨halv2_curve, by decide +kernel⟩, by decide⟩ h
  · have e : ratP ⟨#[49]⟩ ⟨#[49]⟩ = mkRat 1 1 := by decide +kernel
    have hp : Piece 3 (cR (halvL 2)) (mkRat 1 1) 1 := by unfold Piece; decide +kernel
    have hr : ChanceR (halvL 2).length (cR (halvL 2)) (hR (halvL 2)) (ratP ⟨#[49]⟩ ⟨#[49]⟩) (mkRat 1 2) := by
      rw [e, halvL_len]
      exact ⟨1, hp, by decide +kernel⟩
    have hc : ChancesL (halvL 2) [(⟨#[49]⟩, ⟨#[49]⟩), (⟨#[49]⟩, ⟨#[49]⟩)] [mkRat 1 2, mkRat 1 2] := ⟨_, _, rfl, hr, _, _, rfl, hr, rfl⟩
    obtain rfl := h1.unique hc
    have hm : missA 1 [mkRat 1 2, mkRat 1 2] = some (mkRat 1 4) := by decide +kernel
    rcases h2 with ⟨r, g1, g2, g3⟩ | ⟨g1, _⟩
    · rw [hm] at g1
      obtain ⟨e1, e2⟩ := isP_one' g2 (isP_dec (q := mkRat 1 4) (s := ⟨#[49]⟩) (t := ⟨#[52]⟩) (by decide +kernel)) (Option.some.inj g1).symm
      exact ⟨e1, e2, g3⟩
    · rw [hm] at g1; cases g1
abbrev badC : List BB := [zeroB, ((⟨#[49]⟩, ⟨#[49]⟩), (⟨#[49]⟩, ⟨#[52]⟩)), ((⟨#[50]⟩, ⟨#[49]⟩), (⟨#[51]⟩, ⟨#[52]⟩))]
theorem names_j {n : Int} (h : CurveE badC n) : n = 2 := by
  rcases h with ⟨h, _⟩ | ⟨_, h⟩
  · exact absurd (h.conc 0 (by decide)) (by decide +kernel)
  · exact h
abbrev badT : List Sg := [⟨0, 0, 0, 1, 5⟩, ⟨0, 0, 0, 2, 6⟩]
theorem names_k : ¬ TableP badT := fun h => (h.2 1 (by decide)).2 0 (by decide) ⟨⟨rfl, rfl, rfl⟩, .inr (.inl ⟨by decide, by decide⟩)⟩
abbrev oneSg : List Sg := [⟨1, 2, 0, 3, 800⟩]
theorem oneSg_table : TableP oneSg := by
  refine ⟨by decide, fun i hi => ?_⟩
  have hi2 : i < 1 := hi
  obtain rfl : i = 0 := by omega
  exact ⟨⟨by decide, by decide, by decide, by decide, by decide⟩, fun k hk => by omega⟩
theorem names_a {a e : Int} (h : WidthA oneSg 1 2 0 6 a e) : a = 0 ∧ e = 7 := by
  rcases h with ⟨h, _⟩ | ⟨_, _, h1, h2⟩ | ⟨_, i, hi, hf, _⟩
  · exact absurd oneSg_table h
  · exact ⟨h1, h2⟩
  · have hi2 : i < 1 := hi
    obtain rfl : i = 0 := by omega
    exact absurd hf.2.2.2 (by decide)
theorem names_b {x y : ByteArray} {n : Int} (h : CoverA 1000 5000 3600 36000000 x y n) : x = ⟨#[49]⟩ ∧ y = ⟨#[50]⟩ ∧ n = 0 := by
  rcases h with ⟨h, _⟩ | ⟨_, h1, h2⟩
  · exact absurd (by unfold coverIn; decide) h
  · have e : coverQ 1000 5000 3600 36000000 = mkRat 1 2 := by decide +kernel
    obtain ⟨e1, e2⟩ := isP_one' h1 (isP_dec (q := mkRat 1 2) (s := ⟨#[49]⟩) (t := ⟨#[50]⟩) (by decide +kernel)) e
    exact ⟨e1, e2, h2⟩
end Go.Proofs.YtcncdepjbhnknaaGreatDoor
/- detect's Miss: the call. -/
namespace Go.Proofs.YtcncdepjbhnknaaGreatDoor
open Go.RowKit Go.Shelf
attribute [local go_sem ↓] Go.wp_at_zero Go.wp_at_succ

set_option maxRecDepth 100000 in
set_option maxHeartbeats 4000000 in
theorem dMiss_any {v v2 : Value} {bs : List BB} {ps : List PP} {w : World} (hv : BL w v bs) (hz : LimB bs) (hv2 : PL w v2 ps) (hz2 : LimP ps) (hD : DetV w) (hT : Tabs w) :
    Calls Tryz.prog 42 #[v, v2] w (PartPost (MissP bs ps) w) := by
  obtain ⟨n1, hn1⟩ : ∃ n, bs.length = n := ⟨_, rfl⟩
  obtain ⟨p1, c1, rfl⟩ : ∃ p c, v = .slice p n1 c := by obtain ⟨p, c, h, _⟩ := id hv; exact ⟨_, _, by rw [← hn1]; exact h⟩
  obtain ⟨m, hm⟩ : ∃ n, ps.length = n := ⟨_, rfl⟩
  obtain ⟨p2, c2, rfl⟩ : ∃ p c, v2 = .slice p m c := by obtain ⟨p, c, h, _⟩ := id hv2; exact ⟨_, _, by rw [← hm]; exact h⟩
  clear hn1
  have hm9 : m ≤ 9223372036854775807 := by
    obtain ⟨p', c', hs, h1, h2, _⟩ := id hv2
    unfold maxLen at h2
    omega
  obtain ⟨w3, hw3⟩ : ∃ z, ((w.alloc (.cells #[.slice p1 n1 c1] 34)).alloc (.cells #[.slice p2 m c2] 67)).alloc (pObj ⟨#[]⟩ ⟨#[]⟩) = z := ⟨_, rfl⟩
  have hs3 : w3.heap.size = w.heap.size + 3 := by rw [← hw3]; simp
  have HX : Hid (Boxes w.heap.size [.cells #[.slice p1 n1 c1] 34, .cells #[.slice p2 m c2] 67, pObj ⟨#[]⟩ ⟨#[]⟩] w3) := by rw [← hw3]; exact Boxes.three w _ _ _
  have HB3 : Hid (Below w.heap.size w w3) := by rw [← hw3]; exact (((Below.refl _ w).alloc (Nat.le_refl _) _).alloc (by simp) _).alloc (by simp <;> omega) _
  have l0 : w3.cell? ⟨w.heap.size, 0, none⟩ = some (.slice p1 n1 c1) := HX.out.cell 0 0 rfl rfl rfl
  have d0 : w3.cell? ⟨w.heap.size + 1, 0, none⟩ = some (.slice p2 m c2) := HX.out.cell 1 0 rfl rfl rfl
  have HM := Lib.hid hm
  by_cases hlen : m ≤ 512
  · have hno : ¬ (512 : Int) < (m : Int) := by omega
    have HV := Lib.hid hv
    have HV2 := Lib.hid hv2
    have HT := Lib.hid hT
    have HD := Lib.hid hD
    have HR := Lib.hid (dright_any (hv.after HB3.out (Nat.le_refl _)) hz (hv2.after HB3.out (Nat.le_refl _)) hz2 (hD.below HB3.out (Nat.le_refl _)) (hT.below HB3.out (Nat.le_refl _)))
    have HLE : Hid (ps.length ≤ 512) := by show _ ≤ _; omega
    clear hv hv2 hz hz2 hD hT hm hlen
    go_enter Tryz.func42, Tryz.ntmps42
    go_wp2_with fail
    refine HR.out.mono ?_
    rintro e w5 ⟨hE, hb⟩
    have HX5 := Lib.hid (HX.out.below hb HX.out.lt)
    have HB5 := Lib.hid (HB3.out.trans (hb.mono HB3.out.size))
    clear l0 d0 hb HR HX HB3 hs3 hw3
    skip
    have c0 : w5.cell? ⟨w.heap.size + 1 + 1, 0, none⟩ = some (.string ⟨#[]⟩) := HX5.out.cell 2 0 rfl rfl rfl
    have c1 : w5.cell? ⟨w.heap.size + 1 + 1, 1, none⟩ = some (.string ⟨#[]⟩) := HX5.out.cell 2 1 rfl rfl rfl
    have f0 : w5.frozen? ⟨w.heap.size + 1 + 1, 0, none⟩ = false := HX5.out.free 2 0 rfl rfl
    have f1 : w5.frozen? ⟨w.heap.size + 1 + 1, 1, none⟩ = false := HX5.out.free 2 1 rfl rfl
    have hl5 := HX5.out.lt
    rcases hE with ⟨hr, rfl⟩ | ⟨hr, rfl⟩
    · have HOK : Hid (MissOk bs ps) := ⟨hr, HLE.out⟩
      have HTR : Hid (Calls Tryz.prog 68 #[.func (.func 92) #[] #[.pointer (some ⟨w.heap.size + 1, 0, none⟩), .pointer (some ⟨w.heap.size, 0, none⟩)]] w5 (PartPost (MissD bs ps) w5)) :=
        dtried_any (enters_of Tryz.func92 (by kernel_rfl) rfl) fun W hW => by
          have hx := HX5.out.below hW hl5
          have hbw := HB5.out.trans (hW.mono HB5.out.size)
          exact miss1_any (w.heap.size + 1) w.heap.size (hx.block 1 rfl rfl) (hx.block 0 rfl rfl) (HV.out.after hbw (Nat.le_refl _)) (HV2.out.after hbw (Nat.le_refl _)) HM.out HOK.out (HD.out.below hbw (Nat.le_refl _)) (HT.out.below hbw (Nat.le_refl _))
      clear hr HV HV2 HT HD
      go_wp2_with fail
      refine HTR.out.mono ?_
      rintro e w7 ⟨x, y, n, rfl, hA, hb⟩
      have HA : Hid (MissP bs ps x y n) := .inr ⟨HOK.out, hA⟩
      have HX7 := Lib.hid (HX5.out.below hb hl5)
      have HB7 := Lib.hid (HB5.out.trans (hb.mono HB5.out.size))
      clear c0 c1 f0 f1 hb hA hl5 HTR HX5 HB5
      skip
      have c0 : w7.cell? ⟨w.heap.size + 1 + 1, 0, none⟩ = some (.string ⟨#[]⟩) := HX7.out.cell 2 0 rfl rfl rfl
      have c1 : w7.cell? ⟨w.heap.size + 1 + 1, 1, none⟩ = some (.string ⟨#[]⟩) := HX7.out.cell 2 1 rfl rfl rfl
      have f0 : w7.frozen? ⟨w.heap.size + 1 + 1, 0, none⟩ = false := HX7.out.free 2 0 rfl rfl
      have f1 : w7.frozen? ⟨w.heap.size + 1 + 1, 1, none⟩ = false := HX7.out.free 2 1 rfl rfl
      go_wp2
      skip
      obtain ⟨q0, q1⟩ := two_put_cells (HX7.out.block 2 (b := w.heap.size + 1 + 1) rfl rfl) (.string x) (.string y)
      exact bodyPost_ret (v := .tuple #[.agg #[.string x, .string y], .int .i64 n]) (by simp [results, Tryz.f42, go_sem, q0, q1]) rfl ⟨x, y, n, rfl, HA.out, two_put_below HB7.out (by show _ ≤ _; omega) (.string x) (.string y)⟩
    · have HA : Hid (MissP bs ps ⟨#[]⟩ ⟨#[]⟩ 2) := .inl ⟨fun h => hr h.1, rfl, rfl, rfl⟩
      clear hr HV HV2 HT HD hl5
      go_wp2
      skip
      obtain ⟨q0, q1⟩ := two_put_cells (HX5.out.block 2 (b := w.heap.size + 1 + 1) rfl rfl) (.string ⟨#[]⟩) (.string ⟨#[]⟩)
      exact bodyPost_ret (v := .tuple #[.agg #[.string ⟨#[]⟩, .string ⟨#[]⟩], .int .i64 2]) (by simp [results, Tryz.f42, go_sem, q0, q1]) rfl ⟨⟨#[]⟩, ⟨#[]⟩, 2, rfl, HA.out, two_put_below HB5.out (by show _ ≤ _; omega) (.string ⟨#[]⟩) (.string ⟨#[]⟩)⟩
  · have hno : (512 : Int) < (m : Int) := by omega
    have HA : Hid (MissP bs ps ⟨#[]⟩ ⟨#[]⟩ 2) := .inl ⟨fun h => hlen (by have := h.2; omega), rfl, rfl, rfl⟩
    skip
    have c0 : w3.cell? ⟨w.heap.size + 1 + 1, 0, none⟩ = some (.string ⟨#[]⟩) := HX.out.cell 2 0 rfl rfl rfl
    have c1 : w3.cell? ⟨w.heap.size + 1 + 1, 1, none⟩ = some (.string ⟨#[]⟩) := HX.out.cell 2 1 rfl rfl rfl
    have f0 : w3.frozen? ⟨w.heap.size + 1 + 1, 0, none⟩ = false := HX.out.free 2 0 rfl rfl
    have f1 : w3.frozen? ⟨w.heap.size + 1 + 1, 1, none⟩ = false := HX.out.free 2 1 rfl rfl
    have HX' := HX
    have HB' := HB3
    clear hv hv2 hz hz2 hD hT hm hlen
    rw [← hw3] at l0 d0 c0 c1 f0 f1 HX' HB'
    clear hw3 HX HB3
    go_enter Tryz.func42, Tryz.ntmps42
    go_wp2
    skip
    obtain ⟨q0, q1⟩ := two_put_cells (HX'.out.block 2 (b := w.heap.size + 1 + 1) rfl rfl) (.string ⟨#[]⟩) (.string ⟨#[]⟩)
    refine bodyPost_ret (v := .tuple #[.agg #[.string ⟨#[]⟩, .string ⟨#[]⟩], .int .i64 2]) (by simp [results, Tryz.f42, go_sem, q0, q1]) rfl ⟨⟨#[]⟩, ⟨#[]⟩, 2, rfl, HA.out, ?_⟩
    exact HB'.out
end Go.Proofs.YtcncdepjbhnknaaGreatDoor
/- detect's Cover and the document's. -/
namespace Go.Proofs.YtcncdepjbhnknaaGreatDoor
open Go.RowKit Go.Shelf
attribute [local go_sem ↓] Go.wp_at_zero Go.wp_at_succ

/-- The four numbers in blocks. -/
abbrev SN (B1 B2 B3 B4 : Nat) (p q r s : Int) (w' : World) : Prop := w'.cell? ⟨B1, 0, none⟩ = some (.int .i64 p) ∧ w'.cell? ⟨B2, 0, none⟩ = some (.int .i64 q) ∧ w'.cell? ⟨B3, 0, none⟩ = some (.int .i64 r) ∧ w'.cell? ⟨B4, 0, none⟩ = some (.int .i64 s)
abbrev nO (a : Int) : Obj := .cells #[.int .i64 a] 3
def ExactC (c : Rat) (x y : ByteArray) (n : Int) : Prop := n = 0 ∧ IsP c x y
set_option maxRecDepth 100000 in
set_option maxHeartbeats 4000000 in
theorem cover1_any {w : World} {p q r s : Int} (B1 B2 B3 B4 : Nat) (h1 : w.heap[B1]? = some (nO p)) (h2 : w.heap[B2]? = some (nO q)) (h3 : w.heap[B3]? = some (nO s)) (h4 : w.heap[B4]? = some (nO r)) (hin : coverIn p q r s) (hT : Tabs w) :
    Calls Tryz.prog 76 #[.pointer (some ⟨B1, 0, none⟩), .pointer (some ⟨B2, 0, none⟩), .pointer (some ⟨B3, 0, none⟩), .pointer (some ⟨B4, 0, none⟩)] w (DoneD (ExactC (coverQ p q r s)) w) := by
  have hpr := hin.prod
  obtain ⟨hp, hq, hr, hs⟩ := id hin
  have HIN := Lib.hid hin
  obtain ⟨⟨x1, y1, i1⟩, z1, n1⟩ := ratio_isP (p * q).toNat s.toNat (by omega) (by omega) (by omega)
  obtain ⟨⟨x2, y2, i2⟩, z2, n2⟩ := ratio_isP r.toNat 1000 (by omega) (by omega) (by omega)
  obtain ⟨x3, y3, i3⟩ := mul_isP n1 n2 z1 z2
  have I1 := Lib.hid i1
  have I2 := Lib.hid i2
  have I3 := Lib.hid i3
  have HE := Lib.hid hin.prog
  obtain ⟨W, hW⟩ : ∃ z, w.alloc (pObj ⟨#[]⟩ ⟨#[]⟩) = z := ⟨_, rfl⟩
  have HB : Hid (Below w.heap.size w W) := by rw [← hW]; exact (Below.refl _ w).alloc (Nat.le_refl _) _
  have HG : Hid (W.heap[w.heap.size]? = some (pObj ⟨#[]⟩ ⟨#[]⟩)) := by rw [← hW]; exact World.alloc_heap_new w _
  have HS : Hid (∀ V, Below W.heap.size W V → SN B1 B2 B3 B4 p q s r V) := fun V hV => by
    have hb := HB.out.trans (hV.mono HB.out.size)
    have k1 := (hb.block _ (Array.getElem?_eq_some_iff.1 h1).1).trans h1
    have k2 := (hb.block _ (Array.getElem?_eq_some_iff.1 h2).1).trans h2
    have k3 := (hb.block _ (Array.getElem?_eq_some_iff.1 h3).1).trans h3
    have k4 := (hb.block _ (Array.getElem?_eq_some_iff.1 h4).1).trans h4
    exact ⟨known_cell k1 0 rfl, known_cell k2 0 rfl, known_cell k3 0 rfl, known_cell k4 0 rfl⟩
  have HTW : Hid (∀ V, Below W.heap.size W V → Tabs V) := fun V hV => hT.below (HB.out.trans (hV.mono HB.out.size)) (Nat.le_refl _)
  have HW0 : Hid (Below W.heap.size W W.drew) := (Below.refl _ W).drew
  have w1 : IntKind.i64.wrap (p * q) = p * q := IntWalk.i64_in _ (by omega)
  obtain ⟨pq, hpq⟩ : ∃ z, p * q = z := ⟨_, rfl⟩
  rw [hpq] at w1 hpr I1 I3 HE
  clear h1 h2 h3 h4 hT i1 i2 i3 z1 z2 n1 n2
  go_enter Tryz.func76, Tryz.ntmps76
  go_wp2_with fail
  refine tsteps_plain [(true, 0), (true, 1), (true, 2), (true, 3), (true, 8), (false, 4), (true, 5), (true, 6), (false, 7), (false, 9), (true, 10), (true, 11), (false, 12), (false, 13), (true, 14), (true, 15), (false, 16), (false, 17)] (SN B1 B2 B3 B4 p q s r) (fun j => j == 17)
    (by kernel_rfl) (by kernel_rfl) (by kernel_rfl) (fun j hj => by simp at hj ⊢; omega) (fun _ _ o _ _ h => by cases o <;> exact h) (HS.out _ HW0.out) ?_
  skip
  iterate 5
    refine steps_read _ rfl rfl (fun w' hS => by obtain ⟨a0, b0, c0, d0⟩ := hS; go_simp; rfl) ?_
    simp only [List.getElem_toArray, List.getElem_cons_succ, List.getElem_cons_zero, Act.put, List.setIfInBounds_toArray, List.set_cons_zero, List.set_cons_succ]
  refine steps_write rfl rfl fun K hK => ?_
  go_simp
  go_at_call 72
  refine (ratio_to hpr.1 (by omega) (by omega) (by omega) I1.out _ (HTW.out _ HW0.out)).mono ?_
  rintro e w1 ⟨rfl, hb⟩
  have HW1 : Hid (Below W.heap.size W w1) := HW0.out.trans (hb.mono HW0.out.size)
  refine hK _ _ (.inr (HS.out _ HW1.out)) ?_
  clear hK K hb
  skip
  iterate 2
    refine steps_read _ rfl rfl (fun w' hS => by obtain ⟨a0, b0, c0, d0⟩ := hS; go_simp; rfl) ?_
    simp only [List.getElem_toArray, List.getElem_cons_succ, List.getElem_cons_zero, Act.put, List.setIfInBounds_toArray, List.set_cons_zero, List.set_cons_succ]
  refine steps_write rfl rfl fun K hK => ?_
  go_simp
  go_at_call 77
  refine (dmust_ok x1 y1 _).mono ?_
  rintro e w2 ⟨rfl, hb⟩
  have HW2 : Hid (Below W.heap.size W w2) := HW1.out.trans (hb.mono HW1.out.size)
  refine hK _ _ (.inr (HS.out _ HW2.out)) ?_
  clear hK K hb
  refine steps_write rfl rfl fun K hK => ?_
  go_simp
  go_at_call 72
  refine (ratio_to (b := 1000) hr.1 (by omega) (by omega) (by omega) I2.out _ (HTW.out _ HW2.out)).mono ?_
  rintro e w3 ⟨rfl, hb⟩
  have HW3 : Hid (Below W.heap.size W w3) := HW2.out.trans (hb.mono HW2.out.size)
  refine hK _ _ (.inr (HS.out _ HW3.out)) ?_
  clear hK K hb
  skip
  iterate 2
    refine steps_read _ rfl rfl (fun w' hS => by obtain ⟨a0, b0, c0, d0⟩ := hS; go_simp; rfl) ?_
    simp only [List.getElem_toArray, List.getElem_cons_succ, List.getElem_cons_zero, Act.put, List.setIfInBounds_toArray, List.set_cons_zero, List.set_cons_succ]
  refine steps_write rfl rfl fun K hK => ?_
  go_simp
  go_at_call 77
  refine (dmust_ok x2 y2 _).mono ?_
  rintro e w4 ⟨rfl, hb⟩
  have HW4 : Hid (Below W.heap.size W w4) := HW3.out.trans (hb.mono HW3.out.size)
  refine hK _ _ (.inr (HS.out _ HW4.out)) ?_
  clear hK K hb
  refine steps_write rfl rfl fun K hK => ?_
  go_simp
  go_at_call 29
  refine (mul_to I1.out I2.out I3.out rfl _ (HTW.out _ HW4.out)).mono ?_
  rintro e w5 ⟨rfl, hb⟩
  have HW5 : Hid (Below W.heap.size W w5) := HW4.out.trans (hb.mono HW4.out.size)
  refine hK _ _ (.inr (HS.out _ HW5.out)) ?_
  clear hK K hb
  skip
  iterate 2
    refine steps_read _ rfl rfl (fun w' hS => by obtain ⟨a0, b0, c0, d0⟩ := hS; go_simp; rfl) ?_
    simp only [List.getElem_toArray, List.getElem_cons_succ, List.getElem_cons_zero, Act.put, List.setIfInBounds_toArray, List.set_cons_zero, List.set_cons_succ]
  refine steps_write rfl rfl fun K hK => ?_
  go_simp
  go_at_call 77
  refine (dmust_ok x3 y3 _).mono ?_
  rintro e w6 ⟨rfl, hb⟩
  have HW6 : Hid (Below W.heap.size W w6) := HW5.out.trans (hb.mono HW5.out.size)
  refine hK _ _ (.inr (HS.out _ HW6.out)) ?_
  clear hK K hb
  have hg := (HW6.out.block _ (Array.getElem?_eq_some_iff.1 HG.out).1).trans HG.out
  have r0 := known_cell hg 0 rfl
  have r1 := known_cell hg 1 rfl
  have f0 := known_frozen hg 0
  have f1 := known_frozen hg 1
  refine steps_write rfl rfl fun K hK => ?_
  go_simp
  obtain ⟨q0, q1⟩ := two_put_cells hg (.string x3) (.string y3)
  have HBQ := Lib.hid (two_put_below (HB.out.trans (HW6.out.mono HB.out.size)) (Nat.le_refl _) (.string x3) (.string y3))
  refine hK _ _ (.inl rfl) ?_
  clear hK K
  refine steps_end ?_
  clear r0 r1 f0 f1 hg
  go_wp2
  refine bodyPost_ret (v := .agg #[.string x3, .string y3]) (by simp [results, Tryz.f76, go_sem, q0, q1]) rfl ⟨x3, y3, 0, .inl ⟨rfl, rfl⟩, ⟨rfl, ?_⟩, HBQ.out⟩
  rw [← HE.out]
  exact I3.out
end Go.Proofs.YtcncdepjbhnknaaGreatDoor
