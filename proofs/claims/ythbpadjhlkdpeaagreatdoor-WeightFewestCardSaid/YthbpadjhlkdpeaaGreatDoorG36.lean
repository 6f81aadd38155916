/- The parts RInt, RInt2, WInt, LawNumbers, RowErr of a proof, put together by program (merge.py). -/
import Derived.Test.YthbpadjhlkdpeaaGreatDoorG25
import Derived.Test.YthbpadjhlkdpeaaGreatDoorG16
import Derived.Test.YthbpadjhlkdpeaaGreatDoorG24
import Derived.Test.YthbpadjhlkdpeaaGreatDoorG29
import Derived.Test.YthbpadjhlkdpeaaGreatDoorG18
import Derived.Stop.LaidErr
import Derived.Carry
import Derived.ChangeMaps5
/- The document's CheckNat, Make, Of, Ratio, Int. -/
namespace Go.Proofs.YthbpadjhlkdpeaaGreatDoor
open Go.RowKit Go.Shelf



theorem rcheckNat_any (s : ByteArray) (w : World) (hs : s.size ≤ 1000000) : Calls Tryz.prog 52 #[.string s] w (IntPost w (if natOk s.data.toList then 0 else 2)) := by
  have hT := rnat_any s w hs
  cases hp : natOk s.data.toList
  all_goals
    rw [hp] at hT
    clear hp
    go_enter Tryz.func52, Tryz.ntmps52
    go_wp2_with fail
    refine hT.mono ?_
    rintro e w2 ⟨rfl, rfl⟩
    clear hT
    go_wp2
    go_ret
    exact ⟨rfl, Below.refl _ _⟩

set_option maxRecDepth 100000 in
set_option maxHeartbeats 4000000 in
theorem rmake_any (s t : ByteArray) (w : World) (hs : s.size ≤ 1000000) (ht : t.size ≤ 1000000) :
    Calls Tryz.prog 48 #[.string s, .string t] w (PartPost (Made s t) w) := by
  cases h1 : natOk s.data.toList
  · have H1 := Lib.hid h1
    obtain ⟨b2, hb2⟩ : ∃ b, natOk t.data.toList = b := ⟨_, rfl⟩
    have H2 := Lib.hid hb2
    clear h1 hb2
    go_enter Tryz.func48, Tryz.ntmps48
    go_wp2_with fail
    obtain ⟨w1, hw1⟩ : ∃ w1, w.alloc (.cells #[.string ⟨#[]⟩, .string ⟨#[]⟩] 24) = w1 := ⟨_, rfl⟩
    rw [hw1]
    have HX1 : Hid (Boxes w.heap.size [.cells #[.string ⟨#[]⟩, .string ⟨#[]⟩] 24] w1) := by rw [← hw1]; exact Boxes.one w _
    have HB1 : Hid (Below w.heap.size w w1) := by rw [← hw1]; exact (Below.refl _ w).alloc (Nat.le_refl _) _
    clear hw1
    refine (rnat_any s _ hs).mono ?_
    rintro e w2 ⟨rfl, rfl⟩
    rw [H1.out]
    go_wp2_with fail
    refine (rnat_any t _ ht).mono ?_
    rintro e w3 ⟨rfl, rfl⟩
    rw [H2.out]
    have r0 := HX1.out.cell 0 0 (b := w.heap.size) rfl rfl rfl
    have r1 := HX1.out.cell 0 1 (b := w.heap.size) rfl rfl rfl
    have f0 := HX1.out.free 0 0 (b := w.heap.size) rfl rfl
    have f1 := HX1.out.free 0 1 (b := w.heap.size) rfl rfl
    go_wp2
    have q := two_put_cells (HX1.out.block 0 (b := w.heap.size) rfl rfl) (.string ⟨#[]⟩) (.string ⟨#[]⟩)
    have HBQ := Lib.hid (two_put_below HB1.out (b := w.heap.size) (by omega) (.string ⟨#[]⟩) (.string ⟨#[]⟩))
    obtain ⟨w9, hw9⟩ : ∃ w9, (w1.setCell ⟨w.heap.size, 0, none⟩ (.string ⟨#[]⟩)).setCell ⟨w.heap.size, 1, none⟩ (.string ⟨#[]⟩) = w9 := ⟨_, rfl⟩
    rw [hw9] at q HBQ
    obtain ⟨q0, q1⟩ := q
    rw [hw9]
    clear r0 r1 f0 f1 hw9
    go_wp2
    refine bodyPost_ret (v := .tuple #[.agg #[.string ⟨#[]⟩, .string ⟨#[]⟩], .int .i64 2]) (by simp [results, Tryz.f48, go_sem, q0, q1]) rfl ⟨_, _, _, rfl, ?_, HBQ.out⟩
    exact .inl ⟨by rw [H1.out]; rfl, rfl, rfl, rfl⟩
  · have H1 := Lib.hid h1
    clear h1
    cases h2 : natOk t.data.toList
    · have H2 := Lib.hid h2
      clear h2
      go_enter Tryz.func48, Tryz.ntmps48
      go_wp2_with fail
      obtain ⟨w1, hw1⟩ : ∃ w1, w.alloc (.cells #[.string ⟨#[]⟩, .string ⟨#[]⟩] 24) = w1 := ⟨_, rfl⟩
      rw [hw1]
      have HX1 : Hid (Boxes w.heap.size [.cells #[.string ⟨#[]⟩, .string ⟨#[]⟩] 24] w1) := by rw [← hw1]; exact Boxes.one w _
      have HB1 : Hid (Below w.heap.size w w1) := by rw [← hw1]; exact (Below.refl _ w).alloc (Nat.le_refl _) _
      clear hw1
      refine (rnat_any s _ hs).mono ?_
      rintro e w2 ⟨rfl, rfl⟩
      rw [H1.out]
      go_wp2_with fail
      refine (rnat_any t _ ht).mono ?_
      rintro e w3 ⟨rfl, rfl⟩
      rw [H2.out]
      have r0 := HX1.out.cell 0 0 (b := w.heap.size) rfl rfl rfl
      have r1 := HX1.out.cell 0 1 (b := w.heap.size) rfl rfl rfl
      have f0 := HX1.out.free 0 0 (b := w.heap.size) rfl rfl
      have f1 := HX1.out.free 0 1 (b := w.heap.size) rfl rfl
      go_wp2
      have q := two_put_cells (HX1.out.block 0 (b := w.heap.size) rfl rfl) (.string ⟨#[]⟩) (.string ⟨#[]⟩)
      have HBQ := Lib.hid (two_put_below HB1.out (b := w.heap.size) (by omega) (.string ⟨#[]⟩) (.string ⟨#[]⟩))
      obtain ⟨w9, hw9⟩ : ∃ w9, (w1.setCell ⟨w.heap.size, 0, none⟩ (.string ⟨#[]⟩)).setCell ⟨w.heap.size, 1, none⟩ (.string ⟨#[]⟩) = w9 := ⟨_, rfl⟩
      rw [hw9] at q HBQ
      obtain ⟨q0, q1⟩ := q
      rw [hw9]
      clear r0 r1 f0 f1 hw9
      go_wp2
      refine bodyPost_ret (v := .tuple #[.agg #[.string ⟨#[]⟩, .string ⟨#[]⟩], .int .i64 2]) (by simp [results, Tryz.f48, go_sem, q0, q1]) rfl ⟨_, _, _, rfl, ?_, HBQ.out⟩
      exact .inl ⟨by rw [H2.out, Bool.and_false], rfl, rfl, rfl⟩
    · have HZ := Lib.hid (zero_iff h2)
      have H2 := Lib.hid h2
      clear h2
      have dl : t.toList = t.data.toList := ByteArray.toList_eq ..
      by_cases h0 : decVal t.data.toList = 0
      · have hz : (t.toList == [48]) = true := by
          rw [dl, HZ.out.2 h0]; rfl
        have H0 := Lib.hid h0
        clear h0 dl
        go_enter Tryz.func48, Tryz.ntmps48
        go_wp2_with fail
        obtain ⟨w1, hw1⟩ : ∃ w1, w.alloc (.cells #[.string ⟨#[]⟩, .string ⟨#[]⟩] 24) = w1 := ⟨_, rfl⟩
        rw [hw1]
        have HX1 : Hid (Boxes w.heap.size [.cells #[.string ⟨#[]⟩, .string ⟨#[]⟩] 24] w1) := by rw [← hw1]; exact Boxes.one w _
        have HB1 : Hid (Below w.heap.size w w1) := by rw [← hw1]; exact (Below.refl _ w).alloc (Nat.le_refl _) _
        clear hw1
        refine (rnat_any s _ hs).mono ?_
        rintro e w2 ⟨rfl, rfl⟩
        rw [H1.out]
        go_wp2_with fail
        refine (rnat_any t _ ht).mono ?_
        rintro e w3 ⟨rfl, rfl⟩
        rw [H2.out]
        have r0 := HX1.out.cell 0 0 (b := w.heap.size) rfl rfl rfl
        have r1 := HX1.out.cell 0 1 (b := w.heap.size) rfl rfl rfl
        have f0 := HX1.out.free 0 0 (b := w.heap.size) rfl rfl
        have f1 := HX1.out.free 0 1 (b := w.heap.size) rfl rfl
        go_wp2
        have q := two_put_cells (HX1.out.block 0 (b := w.heap.size) rfl rfl) (.string ⟨#[]⟩) (.string ⟨#[]⟩)
        have HBQ := Lib.hid (two_put_below HB1.out (b := w.heap.size) (by omega) (.string ⟨#[]⟩) (.string ⟨#[]⟩))
        obtain ⟨w9, hw9⟩ : ∃ w9, (w1.setCell ⟨w.heap.size, 0, none⟩ (.string ⟨#[]⟩)).setCell ⟨w.heap.size, 1, none⟩ (.string ⟨#[]⟩) = w9 := ⟨_, rfl⟩
        rw [hw9] at q HBQ
        obtain ⟨q0, q1⟩ := q
        rw [hw9]
        clear r0 r1 f0 f1 hw9
        go_wp2
        refine bodyPost_ret (v := .tuple #[.agg #[.string ⟨#[]⟩, .string ⟨#[]⟩], .int .i64 10]) (by simp [results, Tryz.f48, go_sem, q0, q1]) rfl ⟨_, _, _, rfl, ?_, HBQ.out⟩
        exact .inr (.inl ⟨by rw [H1.out, H2.out]; rfl, H0.out, rfl, rfl, rfl⟩)
      · have hz : (t.toList == [48]) = false := by
          rw [beq_eq_false_iff_ne, dl]
          intro hc
          refine h0 (HZ.out.1 ?_)
          rw [← str_eq t, hc]; rfl
        have H0 := Lib.hid h0
        obtain ⟨ds, ls⟩ := rnok H1.out
        obtain ⟨dt, lt⟩ := rnok H2.out
        have HDS := Lib.hid ds
        have HDT := Lib.hid dt
        have HL := Lib.hid (And.intro ls lt)
        clear h0 dl ds ls dt lt
        go_enter Tryz.func48, Tryz.ntmps48
        go_wp2_with fail
        obtain ⟨w1, hw1⟩ : ∃ w1, w.alloc (.cells #[.string ⟨#[]⟩, .string ⟨#[]⟩] 24) = w1 := ⟨_, rfl⟩
        rw [hw1]
        have HX1 : Hid (Boxes w.heap.size [.cells #[.string ⟨#[]⟩, .string ⟨#[]⟩] 24] w1) := by rw [← hw1]; exact Boxes.one w _
        have HB1 : Hid (Below w.heap.size w w1) := by rw [← hw1]; exact (Below.refl _ w).alloc (Nat.le_refl _) _
        clear hw1
        refine (rnat_any s _ hs).mono ?_
        rintro e w2 ⟨rfl, rfl⟩
        rw [H1.out]
        go_wp2_with fail
        refine (rnat_any t _ ht).mono ?_
        rintro e w3 ⟨rfl, rfl⟩
        rw [H2.out]
        go_wp2_with fail
        refine (rparts_any s hs HDS.out _).mono ?_
        rintro e w4 ⟨vn, rfl, hN, hb4⟩
        obtain ⟨pn, ln, cn, rfl⟩ := hN.form
        have HN4 := Lib.hid hN
        have HX4 := Lib.hid (HX1.out.below hb4 HX1.out.lt)
        have HB4 := Lib.hid (HB1.out.trans (hb4.mono HB1.out.size))
        clear hN hb4
        go_wp2_with fail
        refine (rparts_any t ht HDT.out _).mono ?_
        rintro e w5 ⟨vd, rfl, hD, hb5⟩
        obtain ⟨pd, ld, cd, rfl⟩ := hD.form
        have HD5 := Lib.hid hD
        have HN5 := Lib.hid (HN4.out.after hb5 (Nat.le_refl _))
        have HX5 := Lib.hid (HX4.out.below hb5 HX4.out.lt)
        have HB5 := Lib.hid (HB4.out.trans (hb5.mono HB4.out.size))
        clear hD hb5
        go_wp2_with fail
        refine (made_any HN5.out HD5.out (Nat.le_trans HL.out.1 (by decide)) (Nat.le_trans HL.out.2 (by decide)) (Nat.pos_of_ne_zero H0.out)).mono ?_
        rintro e w6 ⟨x, y, n, rfl, hR, hb6⟩
        have HR := Lib.hid hR
        have HX6 := Lib.hid (HX5.out.below hb6 HX5.out.lt)
        have HB6 := Lib.hid (HB5.out.trans (hb6.mono HB5.out.size))
        clear hR hb6
        have r0 := HX6.out.cell 0 0 (b := w.heap.size) rfl rfl rfl
        have r1 := HX6.out.cell 0 1 (b := w.heap.size) rfl rfl rfl
        have f0 := HX6.out.free 0 0 (b := w.heap.size) rfl rfl
        have f1 := HX6.out.free 0 1 (b := w.heap.size) rfl rfl
        go_wp2
        have q := two_put_cells (HX6.out.block 0 (b := w.heap.size) rfl rfl) (.string x) (.string y)
        have HBQ := Lib.hid (two_put_below HB6.out (b := w.heap.size) (by omega) (.string x) (.string y))
        obtain ⟨w9, hw9⟩ : ∃ w9, (w6.setCell ⟨w.heap.size, 0, none⟩ (.string x)).setCell ⟨w.heap.size, 1, none⟩ (.string y) = w9 := ⟨_, rfl⟩
        rw [hw9] at q HBQ
        obtain ⟨q0, q1⟩ := q
        rw [hw9]
        clear r0 r1 f0 f1 hw9
        go_wp2
        refine bodyPost_ret (v := .tuple #[.agg #[.string x, .string y], .int .i64 n]) (by simp [results, Tryz.f48, go_sem, q0, q1]) rfl ⟨_, _, _, rfl, ?_, HBQ.out⟩
        exact .inr (.inr ⟨by rw [H1.out, H2.out]; rfl, Nat.pos_of_ne_zero H0.out, HR.out⟩)

set_option maxRecDepth 100000 in
set_option maxHeartbeats 4000000 in
theorem rof_any (n : Int) (h0 : -9223372036854775808 ≤ n) (h1 : n ≤ 9223372036854775807) (w : World) :
    Calls Tryz.prog 44 #[.int .i64 n] w (OfPost n w) := by
  obtain ⟨i0, hi, hz0, hz1, hz2⟩ := info_parts info_int
  by_cases hn : n < 0
  · go_enter Tryz.func44, Tryz.ntmps44
    go_wp2
    go_ret2
    exact ⟨_, _, rfl, .inl ⟨hn, rfl, rfl⟩, Below.refl _ _⟩
  · obtain ⟨m, rfl⟩ : ∃ m : Nat, n = m := ⟨n.toNat, by omega⟩
    have hl6 : (limbs 10000 m).length ≤ 6 := limbs_length_le (by omega) (by omega)
    have HL6 := Lib.hid hl6
    clear h0 hl6
    go_enter Tryz.func44, Tryz.ntmps44
    go_wp2
    go_loopw [0, 4] (fun vn vo wr => ∃ (j k : Nat) (out : List Nat), vn = .int .i64 j ∧ j ≤ 9223372036854775807 ∧ k ≤ 6 ∧ Hid (limbs 10000 m = out ++ limbs 10000 j) ∧ Hid (Grow .i64 3 wr w.heap.size vo out) ∧ Hid (out.length = k) ∧ Hid (Below w.heap.size w wr)) (fun vn _ _ => (intOf vn).toNat)
    case atStart => exact ⟨m, 0, [], rfl, by omega, by omega, by show _ = _; simp, Grow.nil, rfl, Below.refl _ _⟩
    case round =>
      obtain ⟨j, k, out, rfl, hj, hk6, HI, HO, HLEN, HB⟩ := hrel
      obtain ⟨po, no, co, rfl⟩ : ∃ p n c, u4 = .slice p n c := by obtain ⟨q, c, h⟩ := HO.out.form; exact ⟨_, _, _, h⟩
      by_cases hgo : 0 < j
      · have hgo' : (0 : Int) < j := by omega
        have hm1 : k + 1 ≤ maxLen := by unfold maxLen; omega
        have hm2 : (k + 1) * 8 ≤ 140737488355328 := by omega
        have HI2 : Hid (limbs 10000 m = (out ++ [j % 10000]) ++ limbs 10000 (j / 10000)) := by
          show _ = _
          rw [HI.out, limbs_pos (by omega) hgo]; simp
        have HK7 : Hid (k + 1 ≤ 6) := by
          have h2 := congrArg List.length HI2.out
          have h3 := HL6.out
          have h4 := HLEN.out
          simp at h2
          show _ ≤ _
          omega
        have E1 : Hid ((j : Int) % 10000 = ((j % 10000 : Nat) : Int)) := by show _ = _; omega
        have E2 : Hid ((j : Int) / 10000 = ((j / 10000 : Nat) : Int)) := by show _ = _; omega
        have HJ : Hid (j / 10000 < j ∧ j / 10000 ≤ 9223372036854775807) := ⟨by omega, by omega⟩
        clear hgo
        have hown : wr.ownsRow w.heap.size 3 1 (.slice po no co) k ((out).map fun x => Value.int .i64 (x : Nat)) := by
          have := HO.out; unfold Grow at this; rwa [HLEN.out] at this
        have hsz := HB.out.size
        have hownA := hown.alloc (.cells #[.int .i64 ((j : Int) % 10000)] 3)
        have hm3 : w.heap.size ≤ (wr.alloc (.cells #[.int .i64 ((j : Int) % 10000)] 3)).heap.size := by simp; omega
        go_wp2_with (at_builtin; go_loud (refine wpList_append_own _ rfl _ _ 82 rfl w.heap.size 3 i0 (.int .i64 0) 1 8 Tryz.underlying82 hi hz0 hz1 hz2 rfl (by decide) _ k _ rfl hownA ⟨wr.heap.size, 0, none⟩ 1 1 [.int .i64 ((j : Int) % 10000)] rfl rfl (cell_one_new _ _ _) (by simp [Value.oneCell']) hm1 hm2 hm3 ?_); intro v' w1 hown1 hgrow1 _)
        have HG : Hid (Grow .i64 3 w1 w.heap.size v' (out ++ [j % 10000])) := Grow.snoc HLEN.out E1.out hown1
        have HB1 : Hid (Below w.heap.size w w1) := (HB.out.alloc hsz _).grown hgrow1 hm3 (fun z hz => (World.ownsRow.lt hownA z hz).1)
        clear hown hownA hown1 hgrow1
        go_roundw
        case rel => exact ⟨j / 10000, k + 1, _, by rw [E2.out], HJ.out.2, HK7.out, HI2, HG, by show _ = _; rw [List.length_append, HLEN.out]; rfl, HB1⟩
        case measure => rw [E2.out]; have := HJ.out; simp [intOf]; omega
      · obtain rfl : j = 0 := by omega
        have HE : Hid (out = limbs 10000 m) := by show _ = _; rw [HI.out, limbs_zero]; simp
        have HP : Hid (PNum wr (.slice po no co) m) := by
          have := HO.out.nums
          rw [HE.out] at this
          exact ⟨this, HO.out.pform⟩
        clear hgo
        go_wp2_with fail
        refine (rnatOf_any HP.out (Nat.le_trans HL6.out (by decide))).mono ?_
        rintro e w5 ⟨rfl, hb5⟩
        have HB5 := Lib.hid (HB.out.trans (hb5.mono HB.out.size))
        obtain ⟨s, hs⟩ : ∃ s, str (Lib.decDigits m) = s := ⟨_, rfl⟩
        rw [hs]
        have HS := Lib.hid hs
        clear hb5 hs
        go_wp2
        go_ret2
        exact ⟨_, _, rfl, .inr ⟨by omega, by rw [← HS.out]; rfl, rfl⟩, HB5.out⟩
end Go.Proofs.YthbpadjhlkdpeaaGreatDoor
/- The document's Ratio, Int. -/
namespace Go.Proofs.YthbpadjhlkdpeaaGreatDoor
open Go.RowKit Go.Shelf



set_option maxRecDepth 100000 in
set_option maxHeartbeats 4000000 in
theorem rratio_any (a b : Int) (ha0 : -9223372036854775808 ≤ a) (ha1 : a ≤ 9223372036854775807) (hb0 : -9223372036854775808 ≤ b) (hb1 : b ≤ 9223372036854775807) (w : World) :
    Calls Tryz.prog 50 #[.int .i64 a, .int .i64 b] w (PartPost (RatioR a b) w) := by
  by_cases g1 : a < 0
  · skip
    have HB1 : Hid (Below w.heap.size w (w.alloc (.cells #[.string ⟨#[]⟩, .string ⟨#[]⟩] 24))) := (Below.refl _ w).alloc (Nat.le_refl _) _
    have c0 : (w.alloc (.cells #[.string ⟨#[]⟩, .string ⟨#[]⟩] 24)).cell? ⟨w.heap.size, 0, none⟩ = some (.string ⟨#[]⟩) := cell_new _ _ _ 0 rfl
    have c1 : (w.alloc (.cells #[.string ⟨#[]⟩, .string ⟨#[]⟩] 24)).cell? ⟨w.heap.size, 1, none⟩ = some (.string ⟨#[]⟩) := cell_new _ _ _ 1 rfl
    go_enter Tryz.func50, Tryz.ntmps50
    go_wp2
    refine bodyPost_ret (v := .tuple #[.agg #[.string ⟨#[]⟩, .string ⟨#[]⟩], .int .i64 11]) (by simp [results, Tryz.f50, go_sem, c0, c1]) rfl ⟨_, _, _, rfl, ?_, HB1.out⟩
    exact .inl ⟨.inl g1, rfl, rfl, rfl⟩
  by_cases g2 : b < 0
  · skip
    have HB1 : Hid (Below w.heap.size w (w.alloc (.cells #[.string ⟨#[]⟩, .string ⟨#[]⟩] 24))) := (Below.refl _ w).alloc (Nat.le_refl _) _
    have c0 : (w.alloc (.cells #[.string ⟨#[]⟩, .string ⟨#[]⟩] 24)).cell? ⟨w.heap.size, 0, none⟩ = some (.string ⟨#[]⟩) := cell_new _ _ _ 0 rfl
    have c1 : (w.alloc (.cells #[.string ⟨#[]⟩, .string ⟨#[]⟩] 24)).cell? ⟨w.heap.size, 1, none⟩ = some (.string ⟨#[]⟩) := cell_new _ _ _ 1 rfl
    go_enter Tryz.func50, Tryz.ntmps50
    go_wp2
    refine bodyPost_ret (v := .tuple #[.agg #[.string ⟨#[]⟩, .string ⟨#[]⟩], .int .i64 11]) (by simp [results, Tryz.f50, go_sem, c0, c1]) rfl ⟨_, _, _, rfl, ?_, HB1.out⟩
    exact .inl ⟨.inr g2, rfl, rfl, rfl⟩
  by_cases g3 : b = 0
  · subst g3
    have HB1 : Hid (Below w.heap.size w (w.alloc (.cells #[.string ⟨#[]⟩, .string ⟨#[]⟩] 24))) := (Below.refl _ w).alloc (Nat.le_refl _) _
    have c0 : (w.alloc (.cells #[.string ⟨#[]⟩, .string ⟨#[]⟩] 24)).cell? ⟨w.heap.size, 0, none⟩ = some (.string ⟨#[]⟩) := cell_new _ _ _ 0 rfl
    have c1 : (w.alloc (.cells #[.string ⟨#[]⟩, .string ⟨#[]⟩] 24)).cell? ⟨w.heap.size, 1, none⟩ = some (.string ⟨#[]⟩) := cell_new _ _ _ 1 rfl
    go_enter Tryz.func50, Tryz.ntmps50
    go_wp2
    refine bodyPost_ret (v := .tuple #[.agg #[.string ⟨#[]⟩, .string ⟨#[]⟩], .int .i64 10]) (by simp [results, Tryz.f50, go_sem, c0, c1]) rfl ⟨_, _, _, rfl, ?_, HB1.out⟩
    exact .inr (.inl ⟨by omega, rfl, rfl, rfl, rfl⟩)
  have g4 : (b == 0) = false := by rw [beq_eq_false_iff_ne]; exact g3
  have HA := Lib.hid (rof_any a ha0 ha1)
  have HBB := Lib.hid (rof_any b hb0 hb1)
  have HG : Hid (0 ≤ a ∧ 0 ≤ b ∧ a ≤ 9223372036854775807 ∧ b ≤ 9223372036854775807) := ⟨by omega, by omega, ha1, hb1⟩
  go_enter Tryz.func50, Tryz.ntmps50
  go_wp2_with fail
  obtain ⟨w1, hw1⟩ : ∃ w1, w.alloc (.cells #[.string ⟨#[]⟩, .string ⟨#[]⟩] 24) = w1 := ⟨_, rfl⟩
  rw [hw1]
  have HX1 : Hid (Boxes w.heap.size [.cells #[.string ⟨#[]⟩, .string ⟨#[]⟩] 24] w1) := by rw [← hw1]; exact Boxes.one w _
  have HB1 : Hid (Below w.heap.size w w1) := by rw [← hw1]; exact (Below.refl _ w).alloc (Nat.le_refl _) _
  clear hw1
  refine (HA.out _).mono ?_
  rintro e w2 ⟨s, r1, rfl, hR1, hb2⟩
  obtain ⟨hs, rfl⟩ : s = str (Lib.decDigits a.toNat) ∧ r1 = 0 := by
    rcases hR1 with ⟨h, _⟩ | ⟨_, h1, h2⟩
    · omega
    · exact ⟨h1, h2⟩
  have HX2 := Lib.hid (HX1.out.below hb2 HX1.out.lt)
  have HB2 := Lib.hid (HB1.out.trans (hb2.mono HB1.out.size))
  have HS := Lib.hid hs
  clear hb2 hR1 hs
  go_wp2_with fail
  refine (HBB.out _).mono ?_
  rintro e w3 ⟨t, r2, rfl, hR2, hb3⟩
  obtain ⟨ht, rfl⟩ : t = str (Lib.decDigits b.toNat) ∧ r2 = 0 := by
    rcases hR2 with ⟨h, _⟩ | ⟨_, h1, h2⟩
    · omega
    · exact ⟨h1, h2⟩
  have HX3 := Lib.hid (HX2.out.below hb3 HX2.out.lt)
  have HB3 := Lib.hid (HB2.out.trans (hb3.mono HB2.out.size))
  have HT := Lib.hid ht
  clear hb3 hR2 ht
  have hss : s.size ≤ 1000000 := by rw [HS.out, str_size]; have := i64_pow ha1; omega
  have hts : t.size ≤ 1000000 := by rw [HT.out, str_size]; have := i64_pow hb1; omega
  have HM := Lib.hid (rmake_any s t w3 hss hts)
  clear hss hts
  go_wp2_with fail
  refine HM.out.mono ?_
  rintro e w6 ⟨x, y, n, rfl, hR, hb6⟩
  have HR := Lib.hid (ratio_made HG.out.1 HG.out.2.1 HG.out.2.2.1 HG.out.2.2.2 HS.out HT.out hR)
  have HX6 := Lib.hid (HX3.out.below hb6 HX3.out.lt)
  have HB6 := Lib.hid (HB3.out.trans (hb6.mono HB3.out.size))
  clear hR hb6
  have r0 := HX6.out.cell 0 0 (b := w.heap.size) rfl rfl rfl
  have r1 := HX6.out.cell 0 1 (b := w.heap.size) rfl rfl rfl
  have f0 := HX6.out.free 0 0 (b := w.heap.size) rfl rfl
  have f1 := HX6.out.free 0 1 (b := w.heap.size) rfl rfl
  go_wp2
  have q := two_put_cells (HX6.out.block 0 (b := w.heap.size) rfl rfl) (.string x) (.string y)
  have HBQ := Lib.hid (two_put_below HB6.out (b := w.heap.size) (by omega) (.string x) (.string y))
  obtain ⟨w9, hw9⟩ : ∃ w9, (w6.setCell ⟨w.heap.size, 0, none⟩ (.string x)).setCell ⟨w.heap.size, 1, none⟩ (.string y) = w9 := ⟨_, rfl⟩
  rw [hw9] at q HBQ
  obtain ⟨q0, q1⟩ := q
  rw [hw9]
  clear r0 r1 f0 f1 hw9
  go_wp2
  refine bodyPost_ret (v := .tuple #[.agg #[.string x, .string y], .int .i64 n]) (by simp [results, Tryz.f50, go_sem, q0, q1]) rfl ⟨_, _, _, rfl, ?_, HBQ.out⟩
  exact HR.out

/-- What Int answers: the integer, the error. -/
def intA (s : ByteArray) : Int := if natOk s.data.toList = true ∧ decVal s.data.toList ≤ 4611686018427387904 then (decVal s.data.toList : Nat) else 0
def intE (s : ByteArray) : Int := if natOk s.data.toList = true then (if decVal s.data.toList ≤ 4611686018427387904 then 0 else 4) else 2
theorem int_no {s : ByteArray} (h : natOk s.data.toList = false) : intA s = 0 ∧ intE s = 2 := by unfold intA intE; rw [h]; exact ⟨rfl, rfl⟩
theorem int_far {s : ByteArray} (h : natOk s.data.toList = true) (h2 : 4611686018427387904 < decVal s.data.toList) : intA s = 0 ∧ intE s = 4 := by
  unfold intA intE
  rw [if_neg (by rw [h]; omega), if_pos h, if_neg (by omega)]; exact ⟨rfl, rfl⟩
theorem int_yes {s : ByteArray} (h : natOk s.data.toList = true) (h2 : decVal s.data.toList ≤ 4611686018427387904) : intA s = (decVal s.data.toList : Nat) ∧ intE s = 0 := by
  unfold intA intE
  rw [if_pos ⟨h, h2⟩, if_pos h, if_pos h2]; exact ⟨rfl, rfl⟩
def IntOf (s : ByteArray) (w : World) (e : Ending) (w' : World) : Prop := e = .returned (.tuple #[.int .i64 (intA s), .int .i64 (intE s)]) ∧ Below w.heap.size w w'
theorem val_drop_le (B : Nat) (hB : 0 < B) : ∀ (l : List Nat) (k : Nat), val B (l.drop k) ≤ val B l
  | l, 0 => by simp
  | [], k + 1 => by simp
  | x :: l, k + 1 => by
    have h1 := val_drop_le B hB l k
    have h2 : val B l * 1 ≤ val B l * B := Nat.mul_le_mul_left _ hB
    rw [List.drop_succ_cons, val_cons, Nat.mul_comm]
    omega
theorem most_val : decVal (⟨#[52, 54, 49, 49, 54, 56, 54, 48, 49, 56, 52, 50, 55, 51, 56, 55, 57, 48, 52]⟩ : ByteArray).data.toList = 4611686018427387904 := by decide +kernel
theorem most_dig : ∀ c ∈ (⟨#[52, 54, 49, 49, 54, 56, 54, 48, 49, 56, 52, 50, 55, 51, 56, 55, 57, 48, 52]⟩ : ByteArray).data.toList, isDig c = true := by decide +kernel

set_option maxRecDepth 100000 in
set_option maxHeartbeats 4000000 in
theorem rint_any (s : ByteArray) (w : World) (hs : s.size ≤ 1000000) : Calls Tryz.prog 46 #[.string s] w (IntOf s w) := by
  cases h1 : natOk s.data.toList
  · have HQ := Lib.hid (int_no h1)
    have H1 := Lib.hid h1
    clear h1
    go_enter Tryz.func46, Tryz.ntmps46
    go_wp2_with fail
    refine (rnat_any s _ hs).mono ?_
    rintro e w2 ⟨rfl, rfl⟩
    rw [H1.out]
    go_wp2
    go_ret2
    exact ⟨by rw [HQ.out.1, HQ.out.2]; rfl, Below.refl _ _⟩
  have H1 := Lib.hid h1
  obtain ⟨ds, ls⟩ := rnok h1
  have HDS := Lib.hid ds
  have HF : Hid (4611686018427387904 < decVal s.data.toList → intA s = 0 ∧ intE s = 4) := int_far h1
  have HY : Hid (decVal s.data.toList ≤ 4611686018427387904 → intA s = (decVal s.data.toList : Nat) ∧ intE s = 0) := int_yes h1
  obtain ⟨n, hn⟩ : ∃ n, decVal s.data.toList = n := ⟨_, rfl⟩
  have HQ := Lib.hid hn
  rw [hn] at ls HF HY
  have hl2 : (limbs 10000 4611686018427387904).length ≤ 6 := limbs_length_le (by omega) (by decide)
  have HL := Lib.hid (And.intro ls hl2)
  clear h1 ds ls hn hl2
  by_cases hbig : 4611686018427387904 < n
  · have HZ := Lib.hid (HF.out hbig)
    have HB := Lib.hid hbig
    clear hbig
    go_enter Tryz.func46, Tryz.ntmps46
    go_wp2_with fail
    refine (rnat_any s _ hs).mono ?_
    rintro e w2 ⟨rfl, rfl⟩
    rw [H1.out]
    go_wp2_with fail
    refine (rparts_any s hs HDS.out _).mono ?_
    rintro e w4 ⟨vn, rfl, hN, hb4⟩
    rw [HQ.out] at hN
    obtain ⟨pn, ln, cn, rfl⟩ := hN.form
    have HN4 := Lib.hid hN
    have HB4 := Lib.hid hb4
    clear hN hb4
    go_wp2_with fail
    refine (rparts_any _ (by decide) most_dig _).mono ?_
    rintro e w5 ⟨vm, rfl, hM, hb5⟩
    rw [most_val] at hM
    obtain ⟨pm, lm, cm, rfl⟩ := hM.form
    have HM5 := Lib.hid hM
    have HN5 := Lib.hid (HN4.out.after hb5 (Nat.le_refl _))
    have HB5 := Lib.hid (HB4.out.trans (hb5.mono HB4.out.size))
    clear hM hb5
    go_wp2_with fail
    refine (order_any HN5.out HM5.out (Nat.le_trans HL.out.1 (by decide)) (Nat.le_trans HL.out.2 (by decide))).mono ?_
    rintro e w6 ⟨rfl, hb6⟩
    have HN6 := Lib.hid (HN5.out.after hb6 (Nat.le_refl _))
    have HB6 := Lib.hid (HB5.out.trans (hb6.mono HB5.out.size))
    clear hb6
    rw [sgnN_gt HB.out]
    go_wp2
    go_ret2
    exact ⟨by rw [HZ.out.1, HZ.out.2]; rfl, HB6.out⟩
  have HZ := Lib.hid (HY.out (by omega))
  have hsg : sgnN n 4611686018427387904 = -1 ∨ sgnN n 4611686018427387904 = 0 := by
    by_cases h : n = 4611686018427387904
    · subst h; exact .inr (sgnN_eq _)
    · exact .inl (sgnN_lt (by omega))
  have hn62 : n ≤ 4611686018427387904 := by omega
  have HN62 := Lib.hid hn62
  have HSG := Lib.hid hsg
  clear hbig hsg hn62
  go_enter Tryz.func46, Tryz.ntmps46
  go_wp2_with fail
  refine (rnat_any s _ hs).mono ?_
  rintro e w2 ⟨rfl, rfl⟩
  rw [H1.out]
  go_wp2_with fail
  refine (rparts_any s hs HDS.out _).mono ?_
  rintro e w4 ⟨vn, rfl, hN, hb4⟩
  rw [HQ.out] at hN
  obtain ⟨pn, ln, cn, rfl⟩ := hN.form
  have HN4 := Lib.hid hN
  have HB4 := Lib.hid hb4
  clear hN hb4
  go_wp2_with fail
  refine (rparts_any _ (by decide) most_dig _).mono ?_
  rintro e w5 ⟨vm, rfl, hM, hb5⟩
  rw [most_val] at hM
  obtain ⟨pm, lm, cm, rfl⟩ := hM.form
  have HM5 := Lib.hid hM
  have HN5 := Lib.hid (HN4.out.after hb5 (Nat.le_refl _))
  have HB5 := Lib.hid (HB4.out.trans (hb5.mono HB4.out.size))
  clear hM hb5
  go_wp2_with fail
  refine (order_any HN5.out HM5.out (Nat.le_trans HL.out.1 (by decide)) (Nat.le_trans HL.out.2 (by decide))).mono ?_
  rintro e w6 ⟨rfl, hb6⟩
  have HN6 := Lib.hid (HN5.out.after hb6 (Nat.le_refl _))
  have HB6 := Lib.hid (HB5.out.trans (hb6.mono HB5.out.size))
  clear hb6
  rcases HSG.out with hsg | hsg
  all_goals
    rw [hsg]
    clear hsg
    obtain ⟨xs, hxs⟩ : ∃ xs, limbs 10000 n = xs := ⟨_, rfl⟩
    obtain ⟨p7, c7, hv7, hc7, hm7, hp7⟩ := HN6.out.1
    injection hv7 with e1 e2 e3
    subst e1; subst e2; subst e3
    rw [hxs] at hc7 hp7 ⊢
    have hlen : xs.length ≤ 150 := by rw [← hxs]; exact HL.out.1
    have HV : Hid (val 10000 xs = n) := by rw [← hxs]; exact val_limbs (by omega) n
    have HXL : Hid (∀ x ∈ xs, x < 10000) := by rw [← hxs]; exact limbs_lt (by omega) n
    have HP7 := Lib.hid hp7
    clear hxs hp7
    go_wp2
    go_loop [6, 7] (fun vo vi => ∃ (k : Nat), vi = .int .i64 ((k : Int) - 1) ∧ k ≤ xs.length ∧ vo = .int .i64 (val 10000 (xs.drop k) : Nat)) (fun _ vi => (intOf vi + 1).toNat)
    case atStart => exact ⟨xs.length, by go_num, Nat.le_refl _, by simp [val]⟩
    case round =>
      obtain ⟨k, rfl, hk, rfl⟩ := hrel
      rcases Nat.eq_zero_or_pos k with h0 | h0
      · subst h0
        have h9 : ¬ (0 : Int) ≤ -1 := by omega
        go_wp2
        go_ret2
        exact ⟨by rw [HZ.out.1, HZ.out.2]; first | (rw [HV.out]; done) | (rw [HV.out]; rfl) | (rw [List.drop_zero, HV.out]; rfl), HB6.out⟩
      · obtain ⟨j, rfl⟩ : ∃ j, k = j + 1 := ⟨k - 1, by omega⟩
        have hj : j < xs.length := by omega
        obtain ⟨b, off, rfl, hbb, hc⟩ := HP7.out (List.ne_nil_of_length_pos (by omega))
        have hcj : w6.cell? ⟨b, off + j, none⟩ = some (.int .i64 (xs[j] : Nat)) := hc j hj
        have hd := val_drop 10000 xs j hj
        have hle := val_drop_le 10000 (by omega) xs j
        rw [HV.out] at hle
        have hn62 := HN62.out
        obtain ⟨y, hy⟩ : ∃ y, xs[j] = y := ⟨_, rfl⟩
        obtain ⟨v, hv⟩ : ∃ v, val 10000 (xs.drop (j + 1)) = v := ⟨_, rfl⟩
        obtain ⟨z, hz⟩ : ∃ z, val 10000 (xs.drop j) = z := ⟨_, rfl⟩
        rw [hy, hv, hz] at hd
        rw [hz] at hle
        rw [hy] at hcj
        rw [hv]
        have HZ2 := Lib.hid hz
        have HD := Lib.hid hd
        have ej : ((j + 1 : Nat) : Int) - 1 = (j : Int) := by omega
        have hb1 : (v : Int) * 10000 ≤ 4611686018427387904 := by omega
        have hb2 : (v : Int) * 10000 + y ≤ 4611686018427387904 := by omega
        have i0 : (0 : Int) ≤ j := by omega
        have i1 : (j : Int) < xs.length := by omega
        clear hc hd hle hy hv hz
        go_wp2
        go_round
        case rel => exact ⟨j, by go_num, by omega, by rw [HZ2.out, HD.out]; first | done | go_num⟩
        case measure => first | (simp [intOf]; done) | (simp [intOf]; omega)
end Go.Proofs.YthbpadjhlkdpeaaGreatDoor
/- weight's Int. -/
namespace Go.Proofs.YthbpadjhlkdpeaaGreatDoor
open Go.RowKit Go.Shelf Go.Lib

/-- What the variable that an error out of range is made of holds. -/
def RngVar (w : World) : Prop := ∃ tp p, w.var? Tryz.prog "strconv.ErrRange" = some #[.iface tp p]
theorem RngVar.below {w w' : World} {B : Nat} (h : RngVar w) (hb : Below B w w') (hB : w.heap.size ≤ B) : RngVar w' := by
  obtain ⟨tp, p, h⟩ := h
  refine ⟨tp, p, ?_⟩
  unfold World.var? at h ⊢
  cases hg : Tryz.prog.globalNamed "strconv.ErrRange" with
  | none => simp [hg] at h
  | some g =>
    simp only [hg, Option.bind_some] at h ⊢
    have hlt : g < w.heap.size := by
      rcases Nat.lt_or_ge g w.heap.size with h' | h'
      · exact h'
      · simp [Array.getElem?_eq_none h'] at h
    rw [hb.block g (by omega)]
    exact h

theorem parseUintM_over : ∀ (s : List UInt8) (a : Nat), (∀ c ∈ s, isDig c = true) → 18446744073709551615 < a * 10 ^ s.length + decVal s → a ≤ 18446744073709551615 → parseUintM 18446744073709551615 a s = .range
  | [], a, _, h, ha => by simp [decVal] at h; omega
  | c :: r, a, hd, h, ha => by
    have hc : isDig c = true := hd c (by simp)
    have hc1 := of_decide_eq_true hc
    have he : a * 10 ^ (c :: r).length + decVal (c :: r) = (a * 10 + dg1 c) * 10 ^ r.length + decVal r := by
      rw [decVal_cons, List.length_cons, Nat.pow_succ]; grind
    rw [he] at h
    have h3 : dg1 c = c.toNat - 48 := rfl
    rw [parseUintM, if_pos hc1]
    by_cases g1 : 1844674407370955162 ≤ a
    · rw [if_pos g1]
    · rw [if_neg g1]
      by_cases g2 : 18446744073709551615 < a * 10 + (c.toNat - 48)
      · rw [if_pos g2]
      · rw [if_neg g2]
        exact parseUintM_over r _ (fun x hx => hd x (by simp [hx])) h (by omega)
theorem dig_sign {c : UInt8} (h : isDig c = true) : ¬ (c.toNat = 43 ∨ c.toNat = 45) ∧ ¬ c.toNat = 45 := by
  have := of_decide_eq_true h
  omega
theorem parse_ok {l : List UInt8} (hd : ∀ c ∈ l, isDig c = true) (hn : l ≠ []) (h : decVal l ≤ 9223372036854775807) : parseIntB 64 l = .ok ((decVal l : Nat) : Int) := by
  cases l with
  | nil => exact absurd rfl hn
  | cons c r =>
    obtain ⟨s1, s2⟩ := dig_sign (hd c (by simp))
    have h1 : parseUintB 64 (c :: r) = .ok (decVal (c :: r)) := by
      rw [parseUintB, if_neg hn]
      have := parseUintM_digits (2 ^ 64 - 1) (by omega) (c :: r) 0 hd (by omega)
      simpa using this
    have hp : (2 : Nat) ^ (64 - 1) = 9223372036854775808 := by decide
    unfold parseIntB
    dsimp only
    rw [if_neg s1, h1]
    dsimp only
    rw [if_neg (fun h9 => by have := h9.2; omega), if_neg (fun h9 => s2 h9.1), if_neg s2]
theorem parse_far {l : List UInt8} (hd : ∀ c ∈ l, isDig c = true) (hn : l ≠ []) (h : 9223372036854775807 < decVal l) : parseIntB 64 l = .range := by
  cases l with
  | nil => exact absurd rfl hn
  | cons c r =>
    obtain ⟨s1, s2⟩ := dig_sign (hd c (by simp))
    by_cases h2 : decVal (c :: r) ≤ 18446744073709551615
    · have h1 : parseUintB 64 (c :: r) = .ok (decVal (c :: r)) := by
        rw [parseUintB, if_neg hn]
        have := parseUintM_digits (2 ^ 64 - 1) (by omega) (c :: r) 0 hd (by omega)
        simpa using this
      have hp : (2 : Nat) ^ (64 - 1) = 9223372036854775808 := by decide
      unfold parseIntB
      dsimp only
      rw [if_neg s1, h1]
      dsimp only
      rw [if_pos ⟨s2, by omega⟩]
    · have h1 : parseUintB 64 (c :: r) = .range := by
        rw [parseUintB, if_neg hn]
        exact parseUintM_over (c :: r) 0 hd (by omega) (by omega)
      unfold parseIntB
      dsimp only
      rw [if_neg s1, h1]

set_option maxRecDepth 100000 in
set_option maxHeartbeats 4000000 in
theorem wint_any (s : ByteArray) (w : World) (hs : s.size ≤ 1000000) (hR : RngVar w) : Calls Tryz.prog 45 #[.string s] w (IntOf s w) := by
  cases h1 : natOk s.data.toList
  · have HQ := Lib.hid (int_no h1)
    have H1 := Lib.hid h1
    clear h1
    go_enter Tryz.func45, Tryz.ntmps45
    go_wp2_with fail
    refine (right_any s _ hs).mono ?_
    rintro e w2 ⟨rfl, hb2⟩
    rw [H1.out]
    have HB2 := Lib.hid hb2
    clear hb2
    go_wp2
    go_ret2
    exact ⟨by rw [HQ.out.1, HQ.out.2]; rfl, HB2.out⟩
  have H1 := Lib.hid h1
  obtain ⟨ds, _⟩ := rnok h1
  have hne : s.data.toList ≠ [] := by
    intro hc
    rw [hc] at h1
    exact absurd h1 (by decide)
  have HR := Lib.hid hR
  by_cases g1 : decVal s.data.toList ≤ 9223372036854775807
  · have HP := Lib.hid (parse_ok ds hne g1)
    have HF : Hid (4611686018427387904 < decVal s.data.toList → intA s = 0 ∧ intE s = 4) := int_far h1
    have HY : Hid (decVal s.data.toList ≤ 4611686018427387904 → intA s = (decVal s.data.toList : Nat) ∧ intE s = 0) := int_yes h1
    have HC : Hid (∀ W, Calls Tryz.prog 99 #[.string s, .int .i64 10, .int .i64 64] W fun e w' => e = .returned (.tuple #[.int .i64 ((decVal s.data.toList : Nat) : Int), .nilIface]) ∧ Below W.heap.size W w') := fun W =>
      (Tryz.strconv_ParseInt_10_at64_ok s (by omega) _ HP.out W).mono fun e w' ⟨he, hw⟩ => ⟨he, by
        rcases hw with rfl | ⟨t, rfl⟩
        · exact Below.refl _ _
        · exact bytesWorld_below _ _ _⟩
    obtain ⟨n, hn⟩ : ∃ n, decVal s.data.toList = n := ⟨_, rfl⟩
    rw [hn] at HC HF HY g1
    clear hn ds hne h1 hR
    by_cases g2 : 4611686018427387904 < n
    · have HZ := Lib.hid (HF.out g2)
      have g3 : (4611686018427387904 : Int) < n := by omega
      have g4 : decide ((4611686018427387904 : Int) < n) = true := decide_eq_true g3
      go_enter Tryz.func45, Tryz.ntmps45
      go_wp2_with fail
      refine (right_any s _ hs).mono ?_
      rintro e w2 ⟨rfl, hb2⟩
      rw [H1.out]
      have HB2 := Lib.hid hb2
      clear hb2
      go_wp2_with fail
      refine (HC.out _).mono ?_
      rintro e w3 ⟨rfl, hb3⟩
      have HB3 := Lib.hid (HB2.out.trans (hb3.mono HB2.out.size))
      clear hb3
      go_wp2
      go_ret2
      exact ⟨by rw [HZ.out.1, HZ.out.2]; rfl, HB3.out⟩
    · have HZ := Lib.hid (HY.out (by omega))
      have g3 : ¬ (4611686018427387904 : Int) < n := by omega
      have g4 : decide ((4611686018427387904 : Int) < n) = false := decide_eq_false g3
      go_enter Tryz.func45, Tryz.ntmps45
      go_wp2_with fail
      refine (right_any s _ hs).mono ?_
      rintro e w2 ⟨rfl, hb2⟩
      rw [H1.out]
      have HB2 := Lib.hid hb2
      clear hb2
      go_wp2_with fail
      refine (HC.out _).mono ?_
      rintro e w3 ⟨rfl, hb3⟩
      have HB3 := Lib.hid (HB2.out.trans (hb3.mono HB2.out.size))
      clear hb3
      go_wp2
      go_ret2
      exact ⟨by rw [HZ.out.1, HZ.out.2]; rfl, HB3.out⟩
  · have HP := Lib.hid (parse_far ds hne (by omega))
    have HZ := Lib.hid (int_far h1 (by omega))
    clear ds hne h1 hR g1
    go_enter Tryz.func45, Tryz.ntmps45
    go_wp2_with fail
    refine (right_any s _ hs).mono ?_
    rintro e w2 ⟨rfl, hb2⟩
    rw [H1.out]
    have HB2 := Lib.hid hb2
    clear hb2
    obtain ⟨tp, p, hv⟩ := HR.out.below HB2.out (Nat.le_refl _)
    have hc := Tryz.strconv_ParseInt_10_at64_range_var s (by omega) HP.out tp p w2 hv
    have HC := Lib.hid hc
    clear hv hc
    go_wp2_with fail
    refine HC.out.mono ?_
    rintro e w3 ⟨N, rfl, _, _, hb3⟩
    have HB3 := Lib.hid (HB2.out.trans (hb3.mono HB2.out.size))
    obtain ⟨z, hz⟩ : ∃ z, intSat 64 s.data.toList = z := ⟨_, rfl⟩
    rw [hz]
    clear hb3 hz
    go_wp2
    go_ret2
    exact ⟨by rw [HZ.out.1, HZ.out.2]; rfl, HB3.out⟩
end Go.Proofs.YthbpadjhlkdpeaaGreatDoor
/- WeightNumbers' walk. -/
namespace Go.Proofs.YthbpadjhlkdpeaaGreatDoor
open Go.RowKit Go.Shelf

theorem det_made (s t : ByteArray) : Det (Made s t) := fun x y n x' y' n' h k => by
  rcases h with ⟨h, rfl, rfl, rfl⟩ | ⟨h, h0, rfl, rfl, rfl⟩ | ⟨h, h0, h1⟩
  · rcases k with ⟨_, rfl, rfl, rfl⟩ | ⟨k, _⟩ | ⟨k, _⟩
    · exact ⟨rfl, rfl, rfl⟩
    · rw [h] at k; cases k
    · rw [h] at k; cases k
  · rcases k with ⟨k, _⟩ | ⟨_, _, rfl, rfl, rfl⟩ | ⟨_, k, _⟩
    · rw [h] at k; cases k
    · exact ⟨rfl, rfl, rfl⟩
    · omega
  · rcases k with ⟨k, _⟩ | ⟨_, k, _⟩ | ⟨_, _, k⟩
    · rw [h] at k; cases k
    · omega
    · exact det_ans _ _ _ _ _ _ _ h1 k
theorem det_ratio (a b : Int) : Det (RatioR a b) := fun x y n x' y' n' h k => by
  rcases h with ⟨h, rfl, rfl, rfl⟩ | ⟨h, h0, rfl, rfl, rfl⟩ | ⟨h, h0, h1⟩
  · rcases k with ⟨_, rfl, rfl, rfl⟩ | ⟨k, _⟩ | ⟨k, _⟩
    · exact ⟨rfl, rfl, rfl⟩
    · omega
    · omega
  · rcases k with ⟨k, _⟩ | ⟨_, _, rfl, rfl, rfl⟩ | ⟨_, k, _⟩
    · omega
    · exact ⟨rfl, rfl, rfl⟩
    · omega
  · rcases k with ⟨k, _⟩ | ⟨_, k, _⟩ | ⟨_, _, k⟩
    · omega
    · omega
    · exact det_ans _ _ _ _ _ _ _ h1 k
theorem det_of {n : Int} {s t : ByteArray} {r q : Int} (h : (n < 0 ∧ s = str [] ∧ r = 11) ∨ (0 ≤ n ∧ s = str (Lib.decDigits n.toNat) ∧ r = 0)) (k : (n < 0 ∧ t = str [] ∧ q = 11) ∨ (0 ≤ n ∧ t = str (Lib.decDigits n.toNat) ∧ q = 0)) : t = s ∧ q = r := by
  rcases h with ⟨h, h1, h2⟩ | ⟨h, h1, h2⟩ <;> rcases k with ⟨k, k1, k2⟩ | ⟨k, k1, k2⟩
  · rw [h1, h2]; exact ⟨k1, k2⟩
  · omega
  · omega
  · rw [h1, h2]; exact ⟨k1, k2⟩

set_option maxRecDepth 100000 in
set_option maxHeartbeats 8000000 in
theorem numbers_law (s t : ByteArray) (a b : Int) (ha0 : -9223372036854775808 ≤ a) (ha1 : a ≤ 9223372036854775807) (hb0 : -9223372036854775808 ≤ b) (hb1 : b ≤ 9223372036854775807) (w : World) (hT : Tabs w) (hR : RngVar w) :
    Calls Tryz.prog 11 #[.string s, .string t, .int .i64 a, .int .i64 b] w (BoolPost w true) := by
  have HT := Lib.hid hT
  have HR := Lib.hid hR
  clear hT hR
  by_cases g1 : 700 < s.size
  · have g1' : (700 : Int) < s.size := by omega
    clear ha0 ha1 hb0 hb1 g1
    go_enter Tryz.func11, Tryz.ntmps11
    go_wp2_with fail
    refine (alive_any _ HT.out).mono ?_
    rintro e w1 ⟨rfl, hb1⟩
    have HB1 := Lib.hid hb1
    clear hb1
    go_wp2
    go_ret
    exact ⟨rfl, HB1.out⟩
  have g1' : ¬ (700 : Int) < s.size := by omega
  have g1d : decide ((700 : Int) < s.size) = false := decide_eq_false g1'
  by_cases g2 : 700 < t.size
  · have g2' : (700 : Int) < t.size := by omega
    clear ha0 ha1 hb0 hb1 g1 g2
    go_enter Tryz.func11, Tryz.ntmps11
    go_wp2_with fail
    refine (alive_any _ HT.out).mono ?_
    rintro e w1 ⟨rfl, hb1⟩
    have HB1 := Lib.hid hb1
    clear hb1
    go_wp2
    go_ret
    exact ⟨rfl, HB1.out⟩
  have g2' : ¬ (700 : Int) < t.size := by omega
  have g2d : decide ((700 : Int) < t.size) = false := decide_eq_false g2'
  have HS : Hid (s.size ≤ 1000000 ∧ t.size ≤ 1000000) := ⟨by omega, by omega⟩
  have HAB : Hid (-9223372036854775808 ≤ a ∧ a ≤ 9223372036854775807 ∧ -9223372036854775808 ≤ b ∧ b ≤ 9223372036854775807) := ⟨ha0, ha1, hb0, hb1⟩
  obtain ⟨va, hva⟩ : ∃ v, intA s = v := ⟨_, rfl⟩
  obtain ⟨ve, hve⟩ : ∃ v, intE s = v := ⟨_, rfl⟩
  have HV : Hid (intA s = va ∧ intE s = ve) := ⟨hva, hve⟩
  obtain ⟨ck, hck⟩ : ∃ c : Int, (if natOk s.data.toList then (0 : Int) else 2) = c := ⟨_, rfl⟩
  have H1 : Hid (∀ W, Calls Tryz.prog 51 #[.string s] W (IntPost W ck)) := fun W => by rw [← hck]; exact checkNat_any s W HS.out.1
  have H2 : Hid (∀ W, Calls Tryz.prog 52 #[.string s] W (IntPost W ck)) := fun W => by rw [← hck]; exact rcheckNat_any s W HS.out.1
  clear ha0 ha1 hb0 hb1 g1 g2 hva hve hck
  go_enter Tryz.func11, Tryz.ntmps11
  go_wp2_with fail
  refine (ofInt_any a HAB.out.1 HAB.out.2.1 _ HT.out).mono ?_
  rintro e w1 ⟨s1, r1, rfl, hd, hb⟩
  have HD := Lib.hid hd
  have HB1 := Lib.hid hb
  clear hd hb
  go_wp2_with fail
  refine (rof_any a HAB.out.1 HAB.out.2.1 _).mono ?_
  rintro e w2 ⟨s2, r2, rfl, hd, hb⟩
  obtain ⟨rfl, rfl⟩ := det_of HD.out hd
  have HB2 := Lib.hid (HB1.out.trans (hb.mono HB1.out.size))
  clear hd hb HD HB1
  go_wp2_with fail
  refine (wint_any s _ HS.out.1 (HR.out.below HB2.out (Nat.le_refl _))).mono ?_
  rintro e w3 ⟨rfl, hb⟩
  have HB3 := Lib.hid (HB2.out.trans (hb.mono HB2.out.size))
  rw [HV.out.1, HV.out.2]
  clear hb HB2
  go_wp2_with fail
  refine (rint_any s _ HS.out.1).mono ?_
  rintro e w4 ⟨rfl, hb⟩
  have HB4 := Lib.hid (HB3.out.trans (hb.mono HB3.out.size))
  rw [HV.out.1, HV.out.2]
  have HA4 := Lib.hid (Ats.nil w4)
  clear hb HB3
  go_wp2_with fail
  refine (make_any s t _ HS.out.1 HS.out.2 (HT.out.below HB4.out (Nat.le_refl _))).mono ?_
  rintro e w5 ⟨x1, y1, n1, rfl, hc, hb⟩
  have HC := Lib.hid hc
  have HA5 := Lib.hid ((HA4.out.after hb (Nat.le_refl _)).push x1 y1)
  have HB5 : Hid (Below w.heap.size w (w5.alloc (pObj x1 y1))) := (HB4.out.trans (hb.mono HB4.out.size)).alloc (Nat.le_trans HB4.out.size hb.size) _
  clear hc hb HA4 HB4
  go_wp2_with fail
  refine (rmake_any s t _ HS.out.1 HS.out.2).mono ?_
  rintro e w6 ⟨x', y', n', rfl, hc, hb⟩
  obtain ⟨rfl, rfl, rfl⟩ := det_made _ _ _ _ _ _ _ _ HC.out hc
  have HA6 := Lib.hid ((HA5.out.after hb (Nat.le_refl _)).push x1 y1)
  have HB6 : Hid (Below w.heap.size w (w6.alloc (pObj x1 y1))) := (HB5.out.trans (hb.mono HB5.out.size)).alloc (Nat.le_trans HB5.out.size hb.size) _
  clear hc hb HA5 HB5 HC
  go_wp2_with fail
  refine (ratio_any a b HAB.out.1 HAB.out.2.1 HAB.out.2.2.1 HAB.out.2.2.2 _ (HT.out.below HB6.out (Nat.le_refl _))).mono ?_
  rintro e w7 ⟨x2, y2, n2, rfl, hc, hb⟩
  have HC := Lib.hid hc
  have HA7 := Lib.hid ((HA6.out.after hb (Nat.le_refl _)).push x2 y2)
  have HB7 : Hid (Below w.heap.size w (w7.alloc (pObj x2 y2))) := (HB6.out.trans (hb.mono HB6.out.size)).alloc (Nat.le_trans HB6.out.size hb.size) _
  clear hc hb HA6 HB6
  go_wp2_with fail
  refine (rratio_any a b HAB.out.1 HAB.out.2.1 HAB.out.2.2.1 HAB.out.2.2.2 _).mono ?_
  rintro e w8 ⟨x', y', n', rfl, hc, hb⟩
  obtain ⟨rfl, rfl, rfl⟩ := det_ratio _ _ _ _ _ _ _ _ HC.out hc
  have HA8 := Lib.hid ((HA7.out.after hb (Nat.le_refl _)).push x2 y2)
  have HB8 : Hid (Below w.heap.size w (w8.alloc (pObj x2 y2))) := (HB7.out.trans (hb.mono HB7.out.size)).alloc (Nat.le_trans HB7.out.size hb.size) _
  clear hc hb HA7 HB7 HC
  go_wp2_with fail
  refine (H1.out _).mono ?_
  rintro e w9 ⟨rfl, hb⟩
  have HA9 := Lib.hid (HA8.out.after hb (Nat.le_refl _))
  have HB9 := Lib.hid (HB8.out.trans (hb.mono HB8.out.size))
  clear hb HA8 HB8
  go_wp2_with fail
  refine (H2.out _).mono ?_
  rintro e w10 ⟨rfl, hb⟩
  have HA10 := Lib.hid (HA9.out.after hb (Nat.le_refl _))
  have HB10 := Lib.hid (HB9.out.trans (hb.mono HB9.out.size))
  clear hb HA9 HB9
  have q0 := HA10.out.c0 3 rfl
  have q1 := HA10.out.c1 3 rfl
  have q2 := HA10.out.c0 2 rfl
  have q3 := HA10.out.c1 2 rfl
  go_wp2_with fail
  refine (same_yes x1 y1 n1 _).mono ?_
  rintro e w11 ⟨rfl, hb⟩
  have HA11 := Lib.hid (HA10.out.after hb (Nat.le_refl _))
  have HB11 := Lib.hid (HB10.out.trans (hb.mono HB10.out.size))
  clear hb q0 q1 q2 q3 HA10 HB10
  have q0 := HA11.out.c0 1 rfl
  have q1 := HA11.out.c1 1 rfl
  have q2 := HA11.out.c0 0 rfl
  have q3 := HA11.out.c1 0 rfl
  go_wp2_with fail
  refine (same_yes x2 y2 n2 _).mono ?_
  rintro e w12 ⟨rfl, hb⟩
  have HB12 := Lib.hid (HB11.out.trans (hb.mono HB11.out.size))
  clear hb q0 q1 q2 q3 HA11 HB11
  go_wp2_with fail
  refine (alive_any _ (HT.out.below HB12.out (Nat.le_refl _))).mono ?_
  rintro e w13 ⟨rfl, hb⟩
  have HB13 := Lib.hid (HB12.out.trans (hb.mono HB12.out.size))
  clear hb
  go_wp2
  go_ret
  exact ⟨rfl, HB13.out⟩
end Go.Proofs.YthbpadjhlkdpeaaGreatDoor
/- What the rows' list says of the variable that an error out of range is made of. -/
namespace Go.Proofs.YthbpadjhlkdpeaaGreatDoor
open Go.ChangeShapes Go.WideShapes Go.ChangeAt Go.RowKit

theorem rng7 : (laid7.filter fun x => x.1 == "strconv.ErrRange") = [("strconv.ErrRange", Rows.laid_strconv_ErrRange)] := by kernel_rfl
theorem rngG : Tryz.prog.globalNamed "strconv.ErrRange" = some 2 := by kernel_rfl
theorem rngT : (Tryz.prog.globals[2]?).map (·.type) = some 119 := by kernel_rfl
theorem rngStar : "*" ++ "errors.errorString" = "*errors.errorString" := by decide
theorem rngRow (u : TypeId) (h : Tryz.prog.typeName? 3 u = some "*errors.errorString") : u = 230 :=
  typeName_ptr_named (nm := "errors.errorString") (by rw [rngStar]; kernel_rfl) (by kernel_rfl) (by decide) u (by rw [rngStar]; exact h)
theorem rng_of_laid {W : World} (h : laidMetH Tryz.prog laid7 W) : RngVar W := by
  rw [MakeChecks.laidMetH_plain _ _ _ plain7] at h
  have h2 := laidMet.filter (fun x => x.1 == "strconv.ErrRange") h
  rw [rng7] at h2
  obtain ⟨a, s, hv, _⟩ := laid_sentinel h2 rngG rngT Tryz.underlying119 rngRow Tryz.underlying230 Tryz.underlying232 rfl rfl Tryz.underlying9 (by kernel_rfl) (by kernel_rfl)
  exact ⟨_, _, hv⟩
end Go.Proofs.YthbpadjhlkdpeaaGreatDoor
