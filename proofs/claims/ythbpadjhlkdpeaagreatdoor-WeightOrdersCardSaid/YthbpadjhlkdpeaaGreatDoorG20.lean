/- The parts LawOrders0, LawOrders1, LawOrders2 of a proof, put together by program (merge.py). -/
import Derived.Test.YthbpadjhlkdpeaaGreatDoorG17
/- WeightOrders' walk: by program (field.py). -/
namespace Go.Proofs.YthbpadjhlkdpeaaGreatDoor
open Go.RowKit Go.Shelf

set_option maxRecDepth 100000 in
set_option maxHeartbeats 8000000 in
theorem orders_early0 (a1 a2 b1 b2 c1 c2 : ByteArray) (w : World) (hT : Tabs w) (h0 : shortB 60 [(a1, a2), (b1, b2), (c1, c2)] = false) :
    Calls Tryz.prog 9 #[pV a1 a2, pV b1 b2, pV c1 c2] w (BoolPost w true) := by
  have HT := Lib.hid hT
  clear hT
  have H0 := Lib.hid h0
  clear h0
  go_enter Tryz.func9, Tryz.ntmps9
  go_wp2_with fail
  obtain ⟨w0, hw0⟩ : ∃ w0, ((w.alloc (pObj a1 a2)).alloc (pObj b1 b2)).alloc (pObj c1 c2) = w0 := ⟨_, rfl⟩
  rw [hw0]
  have HB0 : Hid (Below w.heap.size w w0) := by rw [← hw0]; exact (((Below.refl _ w).alloc (Nat.le_refl _) _).alloc (by simp) _).alloc (by simp <;> omega) _
  have HA0 : Hid (Ats [(w.heap.size + 1 + 1, c1, c2), (w.heap.size + 1, b1, b2), (w.heap.size, a1, a2)] w0) := by
    rw [← hw0]
    exact Ats.three w a1 a2 b1 b2 c1 c2
  clear hw0
  refine (alive_any _ (HT.out.below HB0.out (Nat.le_refl _))).mono ?_
  rintro e w1 ⟨rfl, hb1⟩
  have HB1 := Lib.hid (HB0.out.trans (hb1.mono HB0.out.size))
  have HA1 := Lib.hid (HA0.out.after hb1 (Nat.le_refl _))
  clear hb1 HA0 HB0
  have m0 := HA1.out.c0 2 rfl
  have m1 := HA1.out.c1 2 rfl
  have m2 := HA1.out.c0 1 rfl
  have m3 := HA1.out.c1 1 rfl
  have m4 := HA1.out.c0 0 rfl
  have m5 := HA1.out.c1 0 rfl
  go_wp2_with fail
  clear m0 m1 m2 m3 m4 m5
  have hal := (Below.refl w1.heap.size w1).alloc (Nat.le_refl _) (.cells #[.string a1, .string a2, .string b1, .string b2, .string c1, .string c2] 24)
  have HBL := Lib.hid (HB1.out.trans (hal.mono HB1.out.size))
  have HAL := Lib.hid (HA1.out.after hal (Nat.le_refl _))
  clear hal HA1 HB1
  refine (short_any 60 (by decide) (pl_three _ a1 a2 b1 b2 c1 c2)).mono ?_
  rintro e w2 ⟨rfl, hb2⟩
  have HB2 := Lib.hid (HBL.out.trans (hb2.mono HBL.out.size))
  have HA2 := Lib.hid (HAL.out.after hb2 (Nat.le_refl _))
  clear hb2 HAL HBL
  rw [H0.out]
  go_wp2
  go_ret
  exact ⟨rfl, HB2.out⟩
set_option maxRecDepth 100000 in
set_option maxHeartbeats 8000000 in
theorem orders_early1 (a1 a2 b1 b2 c1 c2 : ByteArray) (w : World) (hT : Tabs w) (h0 : shortB 60 [(a1, a2), (b1, b2), (c1, c2)] = true) (hz : a1.size ≤ 1000000 ∧ a2.size ≤ 1000000 ∧ b1.size ≤ 1000000 ∧ b2.size ≤ 1000000 ∧ c1.size ≤ 1000000 ∧ c2.size ≤ 1000000) (h1 : okE a1 a2 = 2) :
    Calls Tryz.prog 9 #[pV a1 a2, pV b1 b2, pV c1 c2] w (BoolPost w true) := by
  have HT := Lib.hid hT
  clear hT
  have H0 := Lib.hid h0
  have HZ := Lib.hid hz
  clear hz
  have H1 := Lib.hid h1
  clear h0 h1
  go_enter Tryz.func9, Tryz.ntmps9
  go_wp2_with fail
  obtain ⟨w0, hw0⟩ : ∃ w0, ((w.alloc (pObj a1 a2)).alloc (pObj b1 b2)).alloc (pObj c1 c2) = w0 := ⟨_, rfl⟩
  rw [hw0]
  have HB0 : Hid (Below w.heap.size w w0) := by rw [← hw0]; exact (((Below.refl _ w).alloc (Nat.le_refl _) _).alloc (by simp) _).alloc (by simp <;> omega) _
  have HA0 : Hid (Ats [(w.heap.size + 1 + 1, c1, c2), (w.heap.size + 1, b1, b2), (w.heap.size, a1, a2)] w0) := by
    rw [← hw0]
    exact Ats.three w a1 a2 b1 b2 c1 c2
  clear hw0
  refine (alive_any _ (HT.out.below HB0.out (Nat.le_refl _))).mono ?_
  rintro e w1 ⟨rfl, hb1⟩
  have HB1 := Lib.hid (HB0.out.trans (hb1.mono HB0.out.size))
  have HA1 := Lib.hid (HA0.out.after hb1 (Nat.le_refl _))
  clear hb1 HA0 HB0
  have m0 := HA1.out.c0 2 rfl
  have m1 := HA1.out.c1 2 rfl
  have m2 := HA1.out.c0 1 rfl
  have m3 := HA1.out.c1 1 rfl
  have m4 := HA1.out.c0 0 rfl
  have m5 := HA1.out.c1 0 rfl
  go_wp2_with fail
  clear m0 m1 m2 m3 m4 m5
  have hal := (Below.refl w1.heap.size w1).alloc (Nat.le_refl _) (.cells #[.string a1, .string a2, .string b1, .string b2, .string c1, .string c2] 24)
  have HBL := Lib.hid (HB1.out.trans (hal.mono HB1.out.size))
  have HAL := Lib.hid (HA1.out.after hal (Nat.le_refl _))
  clear hal HA1 HB1
  refine (short_any 60 (by decide) (pl_three _ a1 a2 b1 b2 c1 c2)).mono ?_
  rintro e w2 ⟨rfl, hb2⟩
  have HB2 := Lib.hid (HBL.out.trans (hb2.mono HBL.out.size))
  have HA2 := Lib.hid (HAL.out.after hb2 (Nat.le_refl _))
  clear hb2 HAL HBL
  rw [H0.out]
  have m0 := HA2.out.c0 2 rfl
  have m1 := HA2.out.c1 2 rfl
  go_wp2_with fail
  clear m0 m1
  refine (check_any a1 a2 _ HZ.out.1 HZ.out.2.1).mono ?_
  rintro e w3 ⟨rfl, hb3⟩
  have HB3 := Lib.hid (HB2.out.trans (hb3.mono HB2.out.size))
  have HA3 := Lib.hid (HA2.out.after hb3 (Nat.le_refl _))
  clear hb3 HA2 HB2
  rw [H1.out]
  go_wp2
  go_ret
  exact ⟨rfl, HB3.out⟩
set_option maxRecDepth 100000 in
set_option maxHeartbeats 8000000 in
theorem orders_early2 (a1 a2 b1 b2 c1 c2 : ByteArray) (w : World) (hT : Tabs w) (h0 : shortB 60 [(a1, a2), (b1, b2), (c1, c2)] = true) (hz : a1.size ≤ 1000000 ∧ a2.size ≤ 1000000 ∧ b1.size ≤ 1000000 ∧ b2.size ≤ 1000000 ∧ c1.size ≤ 1000000 ∧ c2.size ≤ 1000000) (h1 : okE a1 a2 = 0) (h2 : okE b1 b2 = 2) :
    Calls Tryz.prog 9 #[pV a1 a2, pV b1 b2, pV c1 c2] w (BoolPost w true) := by
  have HT := Lib.hid hT
  clear hT
  have H0 := Lib.hid h0
  have HZ := Lib.hid hz
  clear hz
  have H1 := Lib.hid h1
  have H2 := Lib.hid h2
  clear h0 h1 h2
  go_enter Tryz.func9, Tryz.ntmps9
  go_wp2_with fail
  obtain ⟨w0, hw0⟩ : ∃ w0, ((w.alloc (pObj a1 a2)).alloc (pObj b1 b2)).alloc (pObj c1 c2) = w0 := ⟨_, rfl⟩
  rw [hw0]
  have HB0 : Hid (Below w.heap.size w w0) := by rw [← hw0]; exact (((Below.refl _ w).alloc (Nat.le_refl _) _).alloc (by simp) _).alloc (by simp <;> omega) _
  have HA0 : Hid (Ats [(w.heap.size + 1 + 1, c1, c2), (w.heap.size + 1, b1, b2), (w.heap.size, a1, a2)] w0) := by
    rw [← hw0]
    exact Ats.three w a1 a2 b1 b2 c1 c2
  clear hw0
  refine (alive_any _ (HT.out.below HB0.out (Nat.le_refl _))).mono ?_
  rintro e w1 ⟨rfl, hb1⟩
  have HB1 := Lib.hid (HB0.out.trans (hb1.mono HB0.out.size))
  have HA1 := Lib.hid (HA0.out.after hb1 (Nat.le_refl _))
  clear hb1 HA0 HB0
  have m0 := HA1.out.c0 2 rfl
  have m1 := HA1.out.c1 2 rfl
  have m2 := HA1.out.c0 1 rfl
  have m3 := HA1.out.c1 1 rfl
  have m4 := HA1.out.c0 0 rfl
  have m5 := HA1.out.c1 0 rfl
  go_wp2_with fail
  clear m0 m1 m2 m3 m4 m5
  have hal := (Below.refl w1.heap.size w1).alloc (Nat.le_refl _) (.cells #[.string a1, .string a2, .string b1, .string b2, .string c1, .string c2] 24)
  have HBL := Lib.hid (HB1.out.trans (hal.mono HB1.out.size))
  have HAL := Lib.hid (HA1.out.after hal (Nat.le_refl _))
  clear hal HA1 HB1
  refine (short_any 60 (by decide) (pl_three _ a1 a2 b1 b2 c1 c2)).mono ?_
  rintro e w2 ⟨rfl, hb2⟩
  have HB2 := Lib.hid (HBL.out.trans (hb2.mono HBL.out.size))
  have HA2 := Lib.hid (HAL.out.after hb2 (Nat.le_refl _))
  clear hb2 HAL HBL
  rw [H0.out]
  have m0 := HA2.out.c0 2 rfl
  have m1 := HA2.out.c1 2 rfl
  go_wp2_with fail
  clear m0 m1
  refine (check_any a1 a2 _ HZ.out.1 HZ.out.2.1).mono ?_
  rintro e w3 ⟨rfl, hb3⟩
  have HB3 := Lib.hid (HB2.out.trans (hb3.mono HB2.out.size))
  have HA3 := Lib.hid (HA2.out.after hb3 (Nat.le_refl _))
  clear hb3 HA2 HB2
  rw [H1.out]
  have m0 := HA3.out.c0 1 rfl
  have m1 := HA3.out.c1 1 rfl
  go_wp2_with fail
  clear m0 m1
  refine (check_any b1 b2 _ HZ.out.2.2.1 HZ.out.2.2.2.1).mono ?_
  rintro e w4 ⟨rfl, hb4⟩
  have HB4 := Lib.hid (HB3.out.trans (hb4.mono HB3.out.size))
  have HA4 := Lib.hid (HA3.out.after hb4 (Nat.le_refl _))
  clear hb4 HA3 HB3
  rw [H2.out]
  go_wp2
  go_ret
  exact ⟨rfl, HB4.out⟩
set_option maxRecDepth 100000 in
set_option maxHeartbeats 8000000 in
theorem orders_early3 (a1 a2 b1 b2 c1 c2 : ByteArray) (w : World) (hT : Tabs w) (h0 : shortB 60 [(a1, a2), (b1, b2), (c1, c2)] = true) (hz : a1.size ≤ 1000000 ∧ a2.size ≤ 1000000 ∧ b1.size ≤ 1000000 ∧ b2.size ≤ 1000000 ∧ c1.size ≤ 1000000 ∧ c2.size ≤ 1000000) (h1 : okE a1 a2 = 0) (h2 : okE b1 b2 = 0) (h3 : okE c1 c2 = 2) :
    Calls Tryz.prog 9 #[pV a1 a2, pV b1 b2, pV c1 c2] w (BoolPost w true) := by
  have HT := Lib.hid hT
  clear hT
  have H0 := Lib.hid h0
  have HZ := Lib.hid hz
  clear hz
  have H1 := Lib.hid h1
  have H2 := Lib.hid h2
  have H3 := Lib.hid h3
  clear h0 h1 h2 h3
  go_enter Tryz.func9, Tryz.ntmps9
  go_wp2_with fail
  obtain ⟨w0, hw0⟩ : ∃ w0, ((w.alloc (pObj a1 a2)).alloc (pObj b1 b2)).alloc (pObj c1 c2) = w0 := ⟨_, rfl⟩
  rw [hw0]
  have HB0 : Hid (Below w.heap.size w w0) := by rw [← hw0]; exact (((Below.refl _ w).alloc (Nat.le_refl _) _).alloc (by simp) _).alloc (by simp <;> omega) _
  have HA0 : Hid (Ats [(w.heap.size + 1 + 1, c1, c2), (w.heap.size + 1, b1, b2), (w.heap.size, a1, a2)] w0) := by
    rw [← hw0]
    exact Ats.three w a1 a2 b1 b2 c1 c2
  clear hw0
  refine (alive_any _ (HT.out.below HB0.out (Nat.le_refl _))).mono ?_
  rintro e w1 ⟨rfl, hb1⟩
  have HB1 := Lib.hid (HB0.out.trans (hb1.mono HB0.out.size))
  have HA1 := Lib.hid (HA0.out.after hb1 (Nat.le_refl _))
  clear hb1 HA0 HB0
  have m0 := HA1.out.c0 2 rfl
  have m1 := HA1.out.c1 2 rfl
  have m2 := HA1.out.c0 1 rfl
  have m3 := HA1.out.c1 1 rfl
  have m4 := HA1.out.c0 0 rfl
  have m5 := HA1.out.c1 0 rfl
  go_wp2_with fail
  clear m0 m1 m2 m3 m4 m5
  have hal := (Below.refl w1.heap.size w1).alloc (Nat.le_refl _) (.cells #[.string a1, .string a2, .string b1, .string b2, .string c1, .string c2] 24)
  have HBL := Lib.hid (HB1.out.trans (hal.mono HB1.out.size))
  have HAL := Lib.hid (HA1.out.after hal (Nat.le_refl _))
  clear hal HA1 HB1
  refine (short_any 60 (by decide) (pl_three _ a1 a2 b1 b2 c1 c2)).mono ?_
  rintro e w2 ⟨rfl, hb2⟩
  have HB2 := Lib.hid (HBL.out.trans (hb2.mono HBL.out.size))
  have HA2 := Lib.hid (HAL.out.after hb2 (Nat.le_refl _))
  clear hb2 HAL HBL
  rw [H0.out]
  have m0 := HA2.out.c0 2 rfl
  have m1 := HA2.out.c1 2 rfl
  go_wp2_with fail
  clear m0 m1
  refine (check_any a1 a2 _ HZ.out.1 HZ.out.2.1).mono ?_
  rintro e w3 ⟨rfl, hb3⟩
  have HB3 := Lib.hid (HB2.out.trans (hb3.mono HB2.out.size))
  have HA3 := Lib.hid (HA2.out.after hb3 (Nat.le_refl _))
  clear hb3 HA2 HB2
  rw [H1.out]
  have m0 := HA3.out.c0 1 rfl
  have m1 := HA3.out.c1 1 rfl
  go_wp2_with fail
  clear m0 m1
  refine (check_any b1 b2 _ HZ.out.2.2.1 HZ.out.2.2.2.1).mono ?_
  rintro e w4 ⟨rfl, hb4⟩
  have HB4 := Lib.hid (HB3.out.trans (hb4.mono HB3.out.size))
  have HA4 := Lib.hid (HA3.out.after hb4 (Nat.le_refl _))
  clear hb4 HA3 HB3
  rw [H2.out]
  have m0 := HA4.out.c0 0 rfl
  have m1 := HA4.out.c1 0 rfl
  go_wp2_with fail
  clear m0 m1
  refine (check_any c1 c2 _ HZ.out.2.2.2.2.1 HZ.out.2.2.2.2.2).mono ?_
  rintro e w5 ⟨rfl, hb5⟩
  have HB5 := Lib.hid (HB4.out.trans (hb5.mono HB4.out.size))
  have HA5 := Lib.hid (HA4.out.after hb5 (Nat.le_refl _))
  clear hb5 HA4 HB4
  rw [H3.out]
  go_wp2
  go_ret
  exact ⟨rfl, HB5.out⟩
end Go.Proofs.YthbpadjhlkdpeaaGreatDoor
/- WeightOrders' walk: by program (field.py). -/
namespace Go.Proofs.YthbpadjhlkdpeaaGreatDoor
open Go.RowKit Go.Shelf

set_option maxRecDepth 100000 in
set_option maxHeartbeats 8000000 in
theorem orders_main00 {qa qb qc qd qx qy qp qq : Rat} {a1 a2 b1 b2 c1 c2 d1 d2 x1 x2 y1 y2 p1 p2 q1 q2 : ByteArray} (w : World) (hT : Tabs w) (h0 : shortB 60 [(a1, a2), (b1, b2), (c1, c2)] = true) (hz : a1.size ≤ 1000000 ∧ a2.size ≤ 1000000 ∧ b1.size ≤ 1000000 ∧ b2.size ≤ 1000000 ∧ c1.size ≤ 1000000 ∧ c2.size ≤ 1000000) (h1 : okE a1 a2 = 0) (h2 : okE b1 b2 = 0) (h3 : okE c1 c2 = 0)
    (ia : Hid (IsP qa a1 a2)) (ib : Hid (IsP qb b1 b2)) (ic : Hid (IsP qc c1 c2)) (id : Hid (IsP qd d1 d2)) (ix : Hid (IsP qx x1 x2)) (iy : Hid (IsP qy y1 y2)) (ip : Hid (IsP qp p1 p2)) (iq : Hid (IsP qq q1 q2)) (e1 : Hid (sgnR qa qb = -1)) (e2 : Hid (qa < qb)) (e3 : Hid (qa + qc = qx)) (e4 : Hid (qb + qc = qy)) (e5 : Hid (qa * qc = qp)) (e6 : Hid (qb * qc = qq)) (e7 : Hid (sgnR qp qq = -1)) (e8 : Hid (sgnR qb qa = 1)) (e9 : Hid (sgnR qx qy = -1)) (hc : (c1.toList == [48]) = false) (hab : (a1.toList == b1.toList) = true → (a2.toList == b2.toList) = false) :
    Calls Tryz.prog 9 #[pV a1 a2, pV b1 b2, pV c1 c2] w (BoolPost w true) := by
  have HT := Lib.hid hT
  clear hT
  have H0 := Lib.hid h0
  have HZ := Lib.hid hz
  have H1 := Lib.hid h1
  have H2 := Lib.hid h2
  have H3 := Lib.hid h3
  clear h0 hz h1 h2 h3
  have HC := Lib.hid hc
  clear hc
  have HAB := Lib.hid hab
  clear hab
  go_enter Tryz.func9, Tryz.ntmps9
  go_wp2_with fail
  obtain ⟨w0, hw0⟩ : ∃ w0, ((w.alloc (pObj a1 a2)).alloc (pObj b1 b2)).alloc (pObj c1 c2) = w0 := ⟨_, rfl⟩
  rw [hw0]
  have HB0 : Hid (Below w.heap.size w w0) := by rw [← hw0]; exact (((Below.refl _ w).alloc (Nat.le_refl _) _).alloc (by simp) _).alloc (by simp <;> omega) _
  have HA0 : Hid (Ats [(w.heap.size + 1 + 1, c1, c2), (w.heap.size + 1, b1, b2), (w.heap.size, a1, a2)] w0) := by
    rw [← hw0]
    exact Ats.three w a1 a2 b1 b2 c1 c2
  clear hw0
  refine (alive_any _ (HT.out.below HB0.out (Nat.le_refl _))).mono ?_
  rintro e w1 ⟨rfl, hb1⟩
  have HB1 := Lib.hid (HB0.out.trans (hb1.mono HB0.out.size))
  have HA1 := Lib.hid (HA0.out.after hb1 (Nat.le_refl _))
  clear hb1 HA0 HB0
  have m0 := HA1.out.c0 2 rfl
  have m1 := HA1.out.c1 2 rfl
  have m2 := HA1.out.c0 1 rfl
  have m3 := HA1.out.c1 1 rfl
  have m4 := HA1.out.c0 0 rfl
  have m5 := HA1.out.c1 0 rfl
  go_wp2_with fail
  clear m0 m1 m2 m3 m4 m5
  have hal := (Below.refl w1.heap.size w1).alloc (Nat.le_refl _) (.cells #[.string a1, .string a2, .string b1, .string b2, .string c1, .string c2] 24)
  have HBL := Lib.hid (HB1.out.trans (hal.mono HB1.out.size))
  have HAL := Lib.hid (HA1.out.after hal (Nat.le_refl _))
  clear hal HA1 HB1
  refine (short_any 60 (by decide) (pl_three _ a1 a2 b1 b2 c1 c2)).mono ?_
  rintro e w2 ⟨rfl, hb2⟩
  have HB2 := Lib.hid (HBL.out.trans (hb2.mono HBL.out.size))
  have HA2 := Lib.hid (HAL.out.after hb2 (Nat.le_refl _))
  clear hb2 HAL HBL
  rw [H0.out]
  have m0 := HA2.out.c0 2 rfl
  have m1 := HA2.out.c1 2 rfl
  go_wp2_with fail
  clear m0 m1
  refine (check_any a1 a2 _ HZ.out.1 HZ.out.2.1).mono ?_
  rintro e w3 ⟨rfl, hb3⟩
  have HB3 := Lib.hid (HB2.out.trans (hb3.mono HB2.out.size))
  have HA3 := Lib.hid (HA2.out.after hb3 (Nat.le_refl _))
  clear hb3 HA2 HB2
  rw [H1.out]
  have m0 := HA3.out.c0 1 rfl
  have m1 := HA3.out.c1 1 rfl
  go_wp2_with fail
  clear m0 m1
  refine (check_any b1 b2 _ HZ.out.2.2.1 HZ.out.2.2.2.1).mono ?_
  rintro e w4 ⟨rfl, hb4⟩
  have HB4 := Lib.hid (HB3.out.trans (hb4.mono HB3.out.size))
  have HA4 := Lib.hid (HA3.out.after hb4 (Nat.le_refl _))
  clear hb4 HA3 HB3
  rw [H2.out]
  have m0 := HA4.out.c0 0 rfl
  have m1 := HA4.out.c1 0 rfl
  go_wp2_with fail
  clear m0 m1
  refine (check_any c1 c2 _ HZ.out.2.2.2.2.1 HZ.out.2.2.2.2.2).mono ?_
  rintro e w5 ⟨rfl, hb5⟩
  have HB5 := Lib.hid (HB4.out.trans (hb5.mono HB4.out.size))
  have HA5 := Lib.hid (HA4.out.after hb5 (Nat.le_refl _))
  clear hb5 HA4 HB4
  rw [H3.out]
  have m0 := HA5.out.c0 2 rfl
  have m1 := HA5.out.c1 2 rfl
  have m2 := HA5.out.c0 1 rfl
  have m3 := HA5.out.c1 1 rfl
  go_wp2_with fail
  clear m0 m1 m2 m3
  refine (cmp_to ia.out ib.out e1.out _).mono ?_
  rintro e w6 ⟨rfl, hb6⟩
  have HB6 := Lib.hid (HB5.out.trans (hb6.mono HB5.out.size))
  have HA6 := Lib.hid (HA5.out.after hb6 (Nat.le_refl _))
  clear hb6 HA5 HB5
  have m0 := HA6.out.c0 2 rfl
  have m1 := HA6.out.c1 2 rfl
  have m2 := HA6.out.c0 1 rfl
  have m3 := HA6.out.c1 1 rfl
  go_wp2_with fail
  clear m0 m1 m2 m3
  refine (sub_less ia.out ib.out e2.out _ (HT.out.below HB6.out (Nat.le_refl _))).mono ?_
  rintro e w7 ⟨rfl, hb7⟩
  have HB7 : Hid (Below w.heap.size w (w7.alloc (pObj ⟨#[]⟩ ⟨#[]⟩))) := (HB6.out.trans (hb7.mono HB6.out.size)).alloc (Nat.le_trans HB6.out.size hb7.size) _
  have HA7 := Lib.hid ((HA6.out.after hb7 (Nat.le_refl _)).push ⟨#[]⟩ ⟨#[]⟩)
  clear hb7 HA6 HB6
  have m0 := HA7.out.c0 3 rfl
  have m1 := HA7.out.c1 3 rfl
  have m2 := HA7.out.c0 1 rfl
  have m3 := HA7.out.c1 1 rfl
  go_wp2_with fail
  clear m0 m1 m2 m3
  refine (add_to ia.out ic.out ix.out e3.out _ (HT.out.below HB7.out (Nat.le_refl _))).mono ?_
  rintro e w8 ⟨rfl, hb8⟩
  have HB8 : Hid (Below w.heap.size w (w8.alloc (pObj x1 x2))) := (HB7.out.trans (hb8.mono HB7.out.size)).alloc (Nat.le_trans HB7.out.size hb8.size) _
  have HA8 := Lib.hid ((HA7.out.after hb8 (Nat.le_refl _)).push x1 x2)
  clear hb8 HA7 HB7
  have m0 := HA8.out.c0 3 rfl
  have m1 := HA8.out.c1 3 rfl
  have m2 := HA8.out.c0 2 rfl
  have m3 := HA8.out.c1 2 rfl
  go_wp2_with fail
  clear m0 m1 m2 m3
  refine (add_to ib.out ic.out iy.out e4.out _ (HT.out.below HB8.out (Nat.le_refl _))).mono ?_
  rintro e w9 ⟨rfl, hb9⟩
  have HB9 : Hid (Below w.heap.size w (w9.alloc (pObj y1 y2))) := (HB8.out.trans (hb9.mono HB8.out.size)).alloc (Nat.le_trans HB8.out.size hb9.size) _
  have HA9 := Lib.hid ((HA8.out.after hb9 (Nat.le_refl _)).push y1 y2)
  clear hb9 HA8 HB8
  have m0 := HA9.out.c0 5 rfl
  have m1 := HA9.out.c1 5 rfl
  have m2 := HA9.out.c0 3 rfl
  have m3 := HA9.out.c1 3 rfl
  go_wp2_with fail
  clear m0 m1 m2 m3
  refine (mul_to ia.out ic.out ip.out e5.out _ (HT.out.below HB9.out (Nat.le_refl _))).mono ?_
  rintro e w10 ⟨rfl, hb10⟩
  have HB10 : Hid (Below w.heap.size w (w10.alloc (pObj p1 p2))) := (HB9.out.trans (hb10.mono HB9.out.size)).alloc (Nat.le_trans HB9.out.size hb10.size) _
  have HA10 := Lib.hid ((HA9.out.after hb10 (Nat.le_refl _)).push p1 p2)
  clear hb10 HA9 HB9
  have m0 := HA10.out.c0 5 rfl
  have m1 := HA10.out.c1 5 rfl
  have m2 := HA10.out.c0 4 rfl
  have m3 := HA10.out.c1 4 rfl
  go_wp2_with fail
  clear m0 m1 m2 m3
  refine (mul_to ib.out ic.out iq.out e6.out _ (HT.out.below HB10.out (Nat.le_refl _))).mono ?_
  rintro e w11 ⟨rfl, hb11⟩
  have HB11 : Hid (Below w.heap.size w (w11.alloc (pObj q1 q2))) := (HB10.out.trans (hb11.mono HB10.out.size)).alloc (Nat.le_trans HB10.out.size hb11.size) _
  have HA11 := Lib.hid ((HA10.out.after hb11 (Nat.le_refl _)).push q1 q2)
  clear hb11 HA10 HB10
  have m0 := HA11.out.c0 1 rfl
  have m1 := HA11.out.c1 1 rfl
  have m2 := HA11.out.c0 0 rfl
  have m3 := HA11.out.c1 0 rfl
  go_wp2_with fail
  clear m0 m1 m2 m3
  refine (cmp_to ip.out iq.out e7.out _).mono ?_
  rintro e w12 ⟨rfl, hb12⟩
  have HB12 := Lib.hid (HB11.out.trans (hb12.mono HB11.out.size))
  have HA12 := Lib.hid (HA11.out.after hb12 (Nat.le_refl _))
  clear hb12 HA11 HB11
  have hc := HC.out
  have m0 := HA12.out.c0 5 rfl
  have m1 := HA12.out.c1 5 rfl
  have m2 := HA12.out.c0 6 rfl
  have m3 := HA12.out.c1 6 rfl
  have m4 := HA12.out.c0 7 rfl
  have m5 := HA12.out.c1 7 rfl
  go_wp2_with fail
  clear m0 m1 m2 m3 m4 m5
  refine (cmp_to ib.out ia.out e8.out _).mono ?_
  rintro e w13 ⟨rfl, hb13⟩
  have HB13 := Lib.hid (HB12.out.trans (hb13.mono HB12.out.size))
  have HA13 := Lib.hid (HA12.out.after hb13 (Nat.le_refl _))
  clear hb13 HA12 HB12
  have hab := HAB.out
  clear HAB
  cases g1 : (a1.toList == b1.toList)
  · clear hab
    have m0 := HA13.out.c0 7 rfl
    have m1 := HA13.out.c1 7 rfl
    have m2 := HA13.out.c0 6 rfl
    have m3 := HA13.out.c1 6 rfl
    have m4 := HA13.out.c0 3 rfl
    have m5 := HA13.out.c1 3 rfl
    have m6 := HA13.out.c0 2 rfl
    have m7 := HA13.out.c1 2 rfl
    go_wp2_with fail
    clear m0 m1 m2 m3 m4 m5 m6 m7
    refine (cmp_to ix.out iy.out e9.out _).mono ?_
    rintro e w14 ⟨rfl, hb14⟩
    have HB14 := Lib.hid (HB13.out.trans (hb14.mono HB13.out.size))
    have HA14 := Lib.hid (HA13.out.after hb14 (Nat.le_refl _))
    clear hb14 HA13 HB13
    go_wp2
    go_ret
    exact ⟨rfl, HB14.out⟩
  · have g2 := hab g1
    clear hab
    have m0 := HA13.out.c0 7 rfl
    have m1 := HA13.out.c1 7 rfl
    have m2 := HA13.out.c0 6 rfl
    have m3 := HA13.out.c1 6 rfl
    have m4 := HA13.out.c0 3 rfl
    have m5 := HA13.out.c1 3 rfl
    have m6 := HA13.out.c0 2 rfl
    have m7 := HA13.out.c1 2 rfl
    go_wp2_with fail
    clear m0 m1 m2 m3 m4 m5 m6 m7
    refine (cmp_to ix.out iy.out e9.out _).mono ?_
    rintro e w14 ⟨rfl, hb14⟩
    have HB14 := Lib.hid (HB13.out.trans (hb14.mono HB13.out.size))
    have HA14 := Lib.hid (HA13.out.after hb14 (Nat.le_refl _))
    clear hb14 HA13 HB13
    go_wp2
    go_ret
    exact ⟨rfl, HB14.out⟩
set_option maxRecDepth 100000 in
set_option maxHeartbeats 8000000 in
theorem orders_main01 {qa qb qc qd qx qy qp qq : Rat} {a1 a2 c1 c2 d1 d2 x1 x2 y1 y2 p1 p2 q1 q2 : ByteArray} (w : World) (hT : Tabs w) (h0 : shortB 60 [(a1, a2), (a1, a2), (c1, c2)] = true) (hz : a1.size ≤ 1000000 ∧ a2.size ≤ 1000000 ∧ a1.size ≤ 1000000 ∧ a2.size ≤ 1000000 ∧ c1.size ≤ 1000000 ∧ c2.size ≤ 1000000) (h1 : okE a1 a2 = 0) (h2 : okE a1 a2 = 0) (h3 : okE c1 c2 = 0)
    (ia : Hid (IsP qa a1 a2)) (ib : Hid (IsP qb a1 a2)) (ic : Hid (IsP qc c1 c2)) (id : Hid (IsP qd d1 d2)) (ix : Hid (IsP qx x1 x2)) (iy : Hid (IsP qy y1 y2)) (ip : Hid (IsP qp p1 p2)) (iq : Hid (IsP qq q1 q2)) (e1 : Hid (sgnR qa qb = 0)) (e2 : Hid (qa - qb = qd)) (e3 : Hid (qa + qc = qx)) (e4 : Hid (qb + qc = qy)) (e5 : Hid (qa * qc = qp)) (e6 : Hid (qb * qc = qq)) (e7 : Hid (sgnR qp qq = 0)) (e8 : Hid (sgnR qb qa = 0)) (e9 : Hid (sgnR qx qy = 0)) (hc : (c1.toList == [48]) = false) :
    Calls Tryz.prog 9 #[pV a1 a2, pV a1 a2, pV c1 c2] w (BoolPost w true) := by
  have HT := Lib.hid hT
  clear hT
  have H0 := Lib.hid h0
  have HZ := Lib.hid hz
  have H1 := Lib.hid h1
  have H2 := Lib.hid h2
  have H3 := Lib.hid h3
  clear h0 hz h1 h2 h3
  have HC := Lib.hid hc
  clear hc
  go_enter Tryz.func9, Tryz.ntmps9
  go_wp2_with fail
  obtain ⟨w0, hw0⟩ : ∃ w0, ((w.alloc (pObj a1 a2)).alloc (pObj a1 a2)).alloc (pObj c1 c2) = w0 := ⟨_, rfl⟩
  rw [hw0]
  have HB0 : Hid (Below w.heap.size w w0) := by rw [← hw0]; exact (((Below.refl _ w).alloc (Nat.le_refl _) _).alloc (by simp) _).alloc (by simp <;> omega) _
  have HA0 : Hid (Ats [(w.heap.size + 1 + 1, c1, c2), (w.heap.size + 1, a1, a2), (w.heap.size, a1, a2)] w0) := by
    rw [← hw0]
    exact Ats.three w a1 a2 a1 a2 c1 c2
  clear hw0
  refine (alive_any _ (HT.out.below HB0.out (Nat.le_refl _))).mono ?_
  rintro e w1 ⟨rfl, hb1⟩
  have HB1 := Lib.hid (HB0.out.trans (hb1.mono HB0.out.size))
  have HA1 := Lib.hid (HA0.out.after hb1 (Nat.le_refl _))
  clear hb1 HA0 HB0
  have m0 := HA1.out.c0 2 rfl
  have m1 := HA1.out.c1 2 rfl
  have m2 := HA1.out.c0 1 rfl
  have m3 := HA1.out.c1 1 rfl
  have m4 := HA1.out.c0 0 rfl
  have m5 := HA1.out.c1 0 rfl
  go_wp2_with fail
  clear m0 m1 m2 m3 m4 m5
  have hal := (Below.refl w1.heap.size w1).alloc (Nat.le_refl _) (.cells #[.string a1, .string a2, .string a1, .string a2, .string c1, .string c2] 24)
  have HBL := Lib.hid (HB1.out.trans (hal.mono HB1.out.size))
  have HAL := Lib.hid (HA1.out.after hal (Nat.le_refl _))
  clear hal HA1 HB1
  refine (short_any 60 (by decide) (pl_three _ a1 a2 a1 a2 c1 c2)).mono ?_
  rintro e w2 ⟨rfl, hb2⟩
  have HB2 := Lib.hid (HBL.out.trans (hb2.mono HBL.out.size))
  have HA2 := Lib.hid (HAL.out.after hb2 (Nat.le_refl _))
  clear hb2 HAL HBL
  rw [H0.out]
  have m0 := HA2.out.c0 2 rfl
  have m1 := HA2.out.c1 2 rfl
  go_wp2_with fail
  clear m0 m1
  refine (check_any a1 a2 _ HZ.out.1 HZ.out.2.1).mono ?_
  rintro e w3 ⟨rfl, hb3⟩
  have HB3 := Lib.hid (HB2.out.trans (hb3.mono HB2.out.size))
  have HA3 := Lib.hid (HA2.out.after hb3 (Nat.le_refl _))
  clear hb3 HA2 HB2
  rw [H1.out]
  have m0 := HA3.out.c0 1 rfl
  have m1 := HA3.out.c1 1 rfl
  go_wp2_with fail
  clear m0 m1
  refine (check_any a1 a2 _ HZ.out.2.2.1 HZ.out.2.2.2.1).mono ?_
  rintro e w4 ⟨rfl, hb4⟩
  have HB4 := Lib.hid (HB3.out.trans (hb4.mono HB3.out.size))
  have HA4 := Lib.hid (HA3.out.after hb4 (Nat.le_refl _))
  clear hb4 HA3 HB3
  rw [H2.out]
  have m0 := HA4.out.c0 0 rfl
  have m1 := HA4.out.c1 0 rfl
  go_wp2_with fail
  clear m0 m1
  refine (check_any c1 c2 _ HZ.out.2.2.2.2.1 HZ.out.2.2.2.2.2).mono ?_
  rintro e w5 ⟨rfl, hb5⟩
  have HB5 := Lib.hid (HB4.out.trans (hb5.mono HB4.out.size))
  have HA5 := Lib.hid (HA4.out.after hb5 (Nat.le_refl _))
  clear hb5 HA4 HB4
  rw [H3.out]
  have m0 := HA5.out.c0 2 rfl
  have m1 := HA5.out.c1 2 rfl
  have m2 := HA5.out.c0 1 rfl
  have m3 := HA5.out.c1 1 rfl
  go_wp2_with fail
  clear m0 m1 m2 m3
  refine (cmp_to ia.out ib.out e1.out _).mono ?_
  rintro e w6 ⟨rfl, hb6⟩
  have HB6 := Lib.hid (HB5.out.trans (hb6.mono HB5.out.size))
  have HA6 := Lib.hid (HA5.out.after hb6 (Nat.le_refl _))
  clear hb6 HA5 HB5
  have m0 := HA6.out.c0 2 rfl
  have m1 := HA6.out.c1 2 rfl
  have m2 := HA6.out.c0 1 rfl
  have m3 := HA6.out.c1 1 rfl
  go_wp2_with fail
  clear m0 m1 m2 m3
  refine (sub_to ia.out ib.out id.out e2.out _ (HT.out.below HB6.out (Nat.le_refl _))).mono ?_
  rintro e w7 ⟨rfl, hb7⟩
  have HB7 : Hid (Below w.heap.size w (w7.alloc (pObj d1 d2))) := (HB6.out.trans (hb7.mono HB6.out.size)).alloc (Nat.le_trans HB6.out.size hb7.size) _
  have HA7 := Lib.hid ((HA6.out.after hb7 (Nat.le_refl _)).push d1 d2)
  clear hb7 HA6 HB6
  have m0 := HA7.out.c0 3 rfl
  have m1 := HA7.out.c1 3 rfl
  have m2 := HA7.out.c0 1 rfl
  have m3 := HA7.out.c1 1 rfl
  go_wp2_with fail
  clear m0 m1 m2 m3
  refine (add_to ia.out ic.out ix.out e3.out _ (HT.out.below HB7.out (Nat.le_refl _))).mono ?_
  rintro e w8 ⟨rfl, hb8⟩
  have HB8 : Hid (Below w.heap.size w (w8.alloc (pObj x1 x2))) := (HB7.out.trans (hb8.mono HB7.out.size)).alloc (Nat.le_trans HB7.out.size hb8.size) _
  have HA8 := Lib.hid ((HA7.out.after hb8 (Nat.le_refl _)).push x1 x2)
  clear hb8 HA7 HB7
  have m0 := HA8.out.c0 3 rfl
  have m1 := HA8.out.c1 3 rfl
  have m2 := HA8.out.c0 2 rfl
  have m3 := HA8.out.c1 2 rfl
  go_wp2_with fail
  clear m0 m1 m2 m3
  refine (add_to ib.out ic.out iy.out e4.out _ (HT.out.below HB8.out (Nat.le_refl _))).mono ?_
  rintro e w9 ⟨rfl, hb9⟩
  have HB9 : Hid (Below w.heap.size w (w9.alloc (pObj y1 y2))) := (HB8.out.trans (hb9.mono HB8.out.size)).alloc (Nat.le_trans HB8.out.size hb9.size) _
  have HA9 := Lib.hid ((HA8.out.after hb9 (Nat.le_refl _)).push y1 y2)
  clear hb9 HA8 HB8
  have m0 := HA9.out.c0 5 rfl
  have m1 := HA9.out.c1 5 rfl
  have m2 := HA9.out.c0 3 rfl
  have m3 := HA9.out.c1 3 rfl
  go_wp2_with fail
  clear m0 m1 m2 m3
  refine (mul_to ia.out ic.out ip.out e5.out _ (HT.out.below HB9.out (Nat.le_refl _))).mono ?_
  rintro e w10 ⟨rfl, hb10⟩
  have HB10 : Hid (Below w.heap.size w (w10.alloc (pObj p1 p2))) := (HB9.out.trans (hb10.mono HB9.out.size)).alloc (Nat.le_trans HB9.out.size hb10.size) _
  have HA10 := Lib.hid ((HA9.out.after hb10 (Nat.le_refl _)).push p1 p2)
  clear hb10 HA9 HB9
  have m0 := HA10.out.c0 5 rfl
  have m1 := HA10.out.c1 5 rfl
  have m2 := HA10.out.c0 4 rfl
  have m3 := HA10.out.c1 4 rfl
  go_wp2_with fail
  clear m0 m1 m2 m3
  refine (mul_to ib.out ic.out iq.out e6.out _ (HT.out.below HB10.out (Nat.le_refl _))).mono ?_
  rintro e w11 ⟨rfl, hb11⟩
  have HB11 : Hid (Below w.heap.size w (w11.alloc (pObj q1 q2))) := (HB10.out.trans (hb11.mono HB10.out.size)).alloc (Nat.le_trans HB10.out.size hb11.size) _
  have HA11 := Lib.hid ((HA10.out.after hb11 (Nat.le_refl _)).push q1 q2)
  clear hb11 HA10 HB10
  have m0 := HA11.out.c0 1 rfl
  have m1 := HA11.out.c1 1 rfl
  have m2 := HA11.out.c0 0 rfl
  have m3 := HA11.out.c1 0 rfl
  go_wp2_with fail
  clear m0 m1 m2 m3
  refine (cmp_to ip.out iq.out e7.out _).mono ?_
  rintro e w12 ⟨rfl, hb12⟩
  have HB12 := Lib.hid (HB11.out.trans (hb12.mono HB11.out.size))
  have HA12 := Lib.hid (HA11.out.after hb12 (Nat.le_refl _))
  clear hb12 HA11 HB11
  have hc := HC.out
  have m0 := HA12.out.c0 5 rfl
  have m1 := HA12.out.c1 5 rfl
  have m2 := HA12.out.c0 6 rfl
  have m3 := HA12.out.c1 6 rfl
  have m4 := HA12.out.c0 7 rfl
  have m5 := HA12.out.c1 7 rfl
  go_wp2_with fail
  clear m0 m1 m2 m3 m4 m5
  refine (cmp_to ib.out ia.out e8.out _).mono ?_
  rintro e w13 ⟨rfl, hb13⟩
  have HB13 := Lib.hid (HB12.out.trans (hb13.mono HB12.out.size))
  have HA13 := Lib.hid (HA12.out.after hb13 (Nat.le_refl _))
  clear hb13 HA12 HB12
  have m0 := HA13.out.c0 7 rfl
  have m1 := HA13.out.c1 7 rfl
  have m2 := HA13.out.c0 6 rfl
  have m3 := HA13.out.c1 6 rfl
  have m4 := HA13.out.c0 3 rfl
  have m5 := HA13.out.c1 3 rfl
  have m6 := HA13.out.c0 2 rfl
  have m7 := HA13.out.c1 2 rfl
  go_wp2_with fail
  clear m0 m1 m2 m3 m4 m5 m6 m7
  refine (cmp_to ix.out iy.out e9.out _).mono ?_
  rintro e w14 ⟨rfl, hb14⟩
  have HB14 := Lib.hid (HB13.out.trans (hb14.mono HB13.out.size))
  have HA14 := Lib.hid (HA13.out.after hb14 (Nat.le_refl _))
  clear hb14 HA13 HB13
  go_wp2
  go_ret
  exact ⟨rfl, HB14.out⟩
set_option maxRecDepth 100000 in
set_option maxHeartbeats 8000000 in
theorem orders_main02 {qa qb qc qd qx qy qp qq : Rat} {a1 a2 b1 b2 c1 c2 d1 d2 x1 x2 y1 y2 p1 p2 q1 q2 : ByteArray} (w : World) (hT : Tabs w) (h0 : shortB 60 [(a1, a2), (b1, b2), (c1, c2)] = true) (hz : a1.size ≤ 1000000 ∧ a2.size ≤ 1000000 ∧ b1.size ≤ 1000000 ∧ b2.size ≤ 1000000 ∧ c1.size ≤ 1000000 ∧ c2.size ≤ 1000000) (h1 : okE a1 a2 = 0) (h2 : okE b1 b2 = 0) (h3 : okE c1 c2 = 0)
    (ia : Hid (IsP qa a1 a2)) (ib : Hid (IsP qb b1 b2)) (ic : Hid (IsP qc c1 c2)) (id : Hid (IsP qd d1 d2)) (ix : Hid (IsP qx x1 x2)) (iy : Hid (IsP qy y1 y2)) (ip : Hid (IsP qp p1 p2)) (iq : Hid (IsP qq q1 q2)) (e1 : Hid (sgnR qa qb = 1)) (e2 : Hid (qa - qb = qd)) (e3 : Hid (qa + qc = qx)) (e4 : Hid (qb + qc = qy)) (e5 : Hid (qa * qc = qp)) (e6 : Hid (qb * qc = qq)) (e7 : Hid (sgnR qp qq = 1)) (e8 : Hid (sgnR qb qa = -1)) (e9 : Hid (sgnR qx qy = 1)) (hc : (c1.toList == [48]) = false) (hab : (a1.toList == b1.toList) = true → (a2.toList == b2.toList) = false) :
    Calls Tryz.prog 9 #[pV a1 a2, pV b1 b2, pV c1 c2] w (BoolPost w true) := by
  have HT := Lib.hid hT
  clear hT
  have H0 := Lib.hid h0
  have HZ := Lib.hid hz
  have H1 := Lib.hid h1
  have H2 := Lib.hid h2
  have H3 := Lib.hid h3
  clear h0 hz h1 h2 h3
  have HC := Lib.hid hc
  clear hc
  have HAB := Lib.hid hab
  clear hab
  go_enter Tryz.func9, Tryz.ntmps9
  go_wp2_with fail
  obtain ⟨w0, hw0⟩ : ∃ w0, ((w.alloc (pObj a1 a2)).alloc (pObj b1 b2)).alloc (pObj c1 c2) = w0 := ⟨_, rfl⟩
  rw [hw0]
  have HB0 : Hid (Below w.heap.size w w0) := by rw [← hw0]; exact (((Below.refl _ w).alloc (Nat.le_refl _) _).alloc (by simp) _).alloc (by simp <;> omega) _
  have HA0 : Hid (Ats [(w.heap.size + 1 + 1, c1, c2), (w.heap.size + 1, b1, b2), (w.heap.size, a1, a2)] w0) := by
    rw [← hw0]
    exact Ats.three w a1 a2 b1 b2 c1 c2
  clear hw0
  refine (alive_any _ (HT.out.below HB0.out (Nat.le_refl _))).mono ?_
  rintro e w1 ⟨rfl, hb1⟩
  have HB1 := Lib.hid (HB0.out.trans (hb1.mono HB0.out.size))
  have HA1 := Lib.hid (HA0.out.after hb1 (Nat.le_refl _))
  clear hb1 HA0 HB0
  have m0 := HA1.out.c0 2 rfl
  have m1 := HA1.out.c1 2 rfl
  have m2 := HA1.out.c0 1 rfl
  have m3 := HA1.out.c1 1 rfl
  have m4 := HA1.out.c0 0 rfl
  have m5 := HA1.out.c1 0 rfl
  go_wp2_with fail
  clear m0 m1 m2 m3 m4 m5
  have hal := (Below.refl w1.heap.size w1).alloc (Nat.le_refl _) (.cells #[.string a1, .string a2, .string b1, .string b2, .string c1, .string c2] 24)
  have HBL := Lib.hid (HB1.out.trans (hal.mono HB1.out.size))
  have HAL := Lib.hid (HA1.out.after hal (Nat.le_refl _))
  clear hal HA1 HB1
  refine (short_any 60 (by decide) (pl_three _ a1 a2 b1 b2 c1 c2)).mono ?_
  rintro e w2 ⟨rfl, hb2⟩
  have HB2 := Lib.hid (HBL.out.trans (hb2.mono HBL.out.size))
  have HA2 := Lib.hid (HAL.out.after hb2 (Nat.le_refl _))
  clear hb2 HAL HBL
  rw [H0.out]
  have m0 := HA2.out.c0 2 rfl
  have m1 := HA2.out.c1 2 rfl
  go_wp2_with fail
  clear m0 m1
  refine (check_any a1 a2 _ HZ.out.1 HZ.out.2.1).mono ?_
  rintro e w3 ⟨rfl, hb3⟩
  have HB3 := Lib.hid (HB2.out.trans (hb3.mono HB2.out.size))
  have HA3 := Lib.hid (HA2.out.after hb3 (Nat.le_refl _))
  clear hb3 HA2 HB2
  rw [H1.out]
  have m0 := HA3.out.c0 1 rfl
  have m1 := HA3.out.c1 1 rfl
  go_wp2_with fail
  clear m0 m1
  refine (check_any b1 b2 _ HZ.out.2.2.1 HZ.out.2.2.2.1).mono ?_
  rintro e w4 ⟨rfl, hb4⟩
  have HB4 := Lib.hid (HB3.out.trans (hb4.mono HB3.out.size))
  have HA4 := Lib.hid (HA3.out.after hb4 (Nat.le_refl _))
  clear hb4 HA3 HB3
  rw [H2.out]
  have m0 := HA4.out.c0 0 rfl
  have m1 := HA4.out.c1 0 rfl
  go_wp2_with fail
  clear m0 m1
  refine (check_any c1 c2 _ HZ.out.2.2.2.2.1 HZ.out.2.2.2.2.2).mono ?_
  rintro e w5 ⟨rfl, hb5⟩
  have HB5 := Lib.hid (HB4.out.trans (hb5.mono HB4.out.size))
  have HA5 := Lib.hid (HA4.out.after hb5 (Nat.le_refl _))
  clear hb5 HA4 HB4
  rw [H3.out]
  have m0 := HA5.out.c0 2 rfl
  have m1 := HA5.out.c1 2 rfl
  have m2 := HA5.out.c0 1 rfl
  have m3 := HA5.out.c1 1 rfl
  go_wp2_with fail
  clear m0 m1 m2 m3
  refine (cmp_to ia.out ib.out e1.out _).mono ?_
  rintro e w6 ⟨rfl, hb6⟩
  have HB6 := Lib.hid (HB5.out.trans (hb6.mono HB5.out.size))
  have HA6 := Lib.hid (HA5.out.after hb6 (Nat.le_refl _))
  clear hb6 HA5 HB5
  have m0 := HA6.out.c0 2 rfl
  have m1 := HA6.out.c1 2 rfl
  have m2 := HA6.out.c0 1 rfl
  have m3 := HA6.out.c1 1 rfl
  go_wp2_with fail
  clear m0 m1 m2 m3
  refine (sub_to ia.out ib.out id.out e2.out _ (HT.out.below HB6.out (Nat.le_refl _))).mono ?_
  rintro e w7 ⟨rfl, hb7⟩
  have HB7 : Hid (Below w.heap.size w (w7.alloc (pObj d1 d2))) := (HB6.out.trans (hb7.mono HB6.out.size)).alloc (Nat.le_trans HB6.out.size hb7.size) _
  have HA7 := Lib.hid ((HA6.out.after hb7 (Nat.le_refl _)).push d1 d2)
  clear hb7 HA6 HB6
  have m0 := HA7.out.c0 3 rfl
  have m1 := HA7.out.c1 3 rfl
  have m2 := HA7.out.c0 1 rfl
  have m3 := HA7.out.c1 1 rfl
  go_wp2_with fail
  clear m0 m1 m2 m3
  refine (add_to ia.out ic.out ix.out e3.out _ (HT.out.below HB7.out (Nat.le_refl _))).mono ?_
  rintro e w8 ⟨rfl, hb8⟩
  have HB8 : Hid (Below w.heap.size w (w8.alloc (pObj x1 x2))) := (HB7.out.trans (hb8.mono HB7.out.size)).alloc (Nat.le_trans HB7.out.size hb8.size) _
  have HA8 := Lib.hid ((HA7.out.after hb8 (Nat.le_refl _)).push x1 x2)
  clear hb8 HA7 HB7
  have m0 := HA8.out.c0 3 rfl
  have m1 := HA8.out.c1 3 rfl
  have m2 := HA8.out.c0 2 rfl
  have m3 := HA8.out.c1 2 rfl
  go_wp2_with fail
  clear m0 m1 m2 m3
  refine (add_to ib.out ic.out iy.out e4.out _ (HT.out.below HB8.out (Nat.le_refl _))).mono ?_
  rintro e w9 ⟨rfl, hb9⟩
  have HB9 : Hid (Below w.heap.size w (w9.alloc (pObj y1 y2))) := (HB8.out.trans (hb9.mono HB8.out.size)).alloc (Nat.le_trans HB8.out.size hb9.size) _
  have HA9 := Lib.hid ((HA8.out.after hb9 (Nat.le_refl _)).push y1 y2)
  clear hb9 HA8 HB8
  have m0 := HA9.out.c0 5 rfl
  have m1 := HA9.out.c1 5 rfl
  have m2 := HA9.out.c0 3 rfl
  have m3 := HA9.out.c1 3 rfl
  go_wp2_with fail
  clear m0 m1 m2 m3
  refine (mul_to ia.out ic.out ip.out e5.out _ (HT.out.below HB9.out (Nat.le_refl _))).mono ?_
  rintro e w10 ⟨rfl, hb10⟩
  have HB10 : Hid (Below w.heap.size w (w10.alloc (pObj p1 p2))) := (HB9.out.trans (hb10.mono HB9.out.size)).alloc (Nat.le_trans HB9.out.size hb10.size) _
  have HA10 := Lib.hid ((HA9.out.after hb10 (Nat.le_refl _)).push p1 p2)
  clear hb10 HA9 HB9
  have m0 := HA10.out.c0 5 rfl
  have m1 := HA10.out.c1 5 rfl
  have m2 := HA10.out.c0 4 rfl
  have m3 := HA10.out.c1 4 rfl
  go_wp2_with fail
  clear m0 m1 m2 m3
  refine (mul_to ib.out ic.out iq.out e6.out _ (HT.out.below HB10.out (Nat.le_refl _))).mono ?_
  rintro e w11 ⟨rfl, hb11⟩
  have HB11 : Hid (Below w.heap.size w (w11.alloc (pObj q1 q2))) := (HB10.out.trans (hb11.mono HB10.out.size)).alloc (Nat.le_trans HB10.out.size hb11.size) _
  have HA11 := Lib.hid ((HA10.out.after hb11 (Nat.le_refl _)).push q1 q2)
  clear hb11 HA10 HB10
  have m0 := HA11.out.c0 1 rfl
  have m1 := HA11.out.c1 1 rfl
  have m2 := HA11.out.c0 0 rfl
  have m3 := HA11.out.c1 0 rfl
  go_wp2_with fail
  clear m0 m1 m2 m3
  refine (cmp_to ip.out iq.out e7.out _).mono ?_
  rintro e w12 ⟨rfl, hb12⟩
  have HB12 := Lib.hid (HB11.out.trans (hb12.mono HB11.out.size))
  have HA12 := Lib.hid (HA11.out.after hb12 (Nat.le_refl _))
  clear hb12 HA11 HB11
  have hc := HC.out
  have m0 := HA12.out.c0 5 rfl
  have m1 := HA12.out.c1 5 rfl
  have m2 := HA12.out.c0 6 rfl
  have m3 := HA12.out.c1 6 rfl
  have m4 := HA12.out.c0 7 rfl
  have m5 := HA12.out.c1 7 rfl
  go_wp2_with fail
  clear m0 m1 m2 m3 m4 m5
  refine (cmp_to ib.out ia.out e8.out _).mono ?_
  rintro e w13 ⟨rfl, hb13⟩
  have HB13 := Lib.hid (HB12.out.trans (hb13.mono HB12.out.size))
  have HA13 := Lib.hid (HA12.out.after hb13 (Nat.le_refl _))
  clear hb13 HA12 HB12
  have hab := HAB.out
  clear HAB
  cases g1 : (a1.toList == b1.toList)
  · clear hab
    have m0 := HA13.out.c0 7 rfl
    have m1 := HA13.out.c1 7 rfl
    have m2 := HA13.out.c0 6 rfl
    have m3 := HA13.out.c1 6 rfl
    have m4 := HA13.out.c0 3 rfl
    have m5 := HA13.out.c1 3 rfl
    have m6 := HA13.out.c0 2 rfl
    have m7 := HA13.out.c1 2 rfl
    go_wp2_with fail
    clear m0 m1 m2 m3 m4 m5 m6 m7
    refine (cmp_to ix.out iy.out e9.out _).mono ?_
    rintro e w14 ⟨rfl, hb14⟩
    have HB14 := Lib.hid (HB13.out.trans (hb14.mono HB13.out.size))
    have HA14 := Lib.hid (HA13.out.after hb14 (Nat.le_refl _))
    clear hb14 HA13 HB13
    go_wp2
    go_ret
    exact ⟨rfl, HB14.out⟩
  · have g2 := hab g1
    clear hab
    have m0 := HA13.out.c0 7 rfl
    have m1 := HA13.out.c1 7 rfl
    have m2 := HA13.out.c0 6 rfl
    have m3 := HA13.out.c1 6 rfl
    have m4 := HA13.out.c0 3 rfl
    have m5 := HA13.out.c1 3 rfl
    have m6 := HA13.out.c0 2 rfl
    have m7 := HA13.out.c1 2 rfl
    go_wp2_with fail
    clear m0 m1 m2 m3 m4 m5 m6 m7
    refine (cmp_to ix.out iy.out e9.out _).mono ?_
    rintro e w14 ⟨rfl, hb14⟩
    have HB14 := Lib.hid (HB13.out.trans (hb14.mono HB13.out.size))
    have HA14 := Lib.hid (HA13.out.after hb14 (Nat.le_refl _))
    clear hb14 HA13 HB13
    go_wp2
    go_ret
    exact ⟨rfl, HB14.out⟩
end Go.Proofs.YthbpadjhlkdpeaaGreatDoor
/- WeightOrders' walk: by program (field.py). -/
namespace Go.Proofs.YthbpadjhlkdpeaaGreatDoor
open Go.RowKit Go.Shelf

set_option maxRecDepth 100000 in
set_option maxHeartbeats 8000000 in
theorem orders_main10 {qa qb qc qd qx qy qp qq : Rat} {a1 a2 b1 b2 c2 d1 d2 x1 x2 y1 y2 p1 p2 q1 q2 : ByteArray} (w : World) (hT : Tabs w) (h0 : shortB 60 [(a1, a2), (b1, b2), ((⟨#[48]⟩ : ByteArray), c2)] = true) (hz : a1.size ≤ 1000000 ∧ a2.size ≤ 1000000 ∧ b1.size ≤ 1000000 ∧ b2.size ≤ 1000000 ∧ (⟨#[48]⟩ : ByteArray).size ≤ 1000000 ∧ c2.size ≤ 1000000) (h1 : okE a1 a2 = 0) (h2 : okE b1 b2 = 0) (h3 : okE (⟨#[48]⟩ : ByteArray) c2 = 0)
    (ia : Hid (IsP qa a1 a2)) (ib : Hid (IsP qb b1 b2)) (ic : Hid (IsP qc (⟨#[48]⟩ : ByteArray) c2)) (id : Hid (IsP qd d1 d2)) (ix : Hid (IsP qx x1 x2)) (iy : Hid (IsP qy y1 y2)) (ip : Hid (IsP qp p1 p2)) (iq : Hid (IsP qq q1 q2)) (e1 : Hid (sgnR qa qb = -1)) (e2 : Hid (qa < qb)) (e3 : Hid (qa + qc = qx)) (e4 : Hid (qb + qc = qy)) (e5 : Hid (qa * qc = qp)) (e6 : Hid (qb * qc = qq)) (e7 : Hid (sgnR qp qq = 0)) (e8 : Hid (sgnR qb qa = 1)) (e9 : Hid (sgnR qx qy = -1)) (hab : (a1.toList == b1.toList) = true → (a2.toList == b2.toList) = false) :
    Calls Tryz.prog 9 #[pV a1 a2, pV b1 b2, pV (⟨#[48]⟩ : ByteArray) c2] w (BoolPost w true) := by
  have HT := Lib.hid hT
  clear hT
  have H0 := Lib.hid h0
  have HZ := Lib.hid hz
  have H1 := Lib.hid h1
  have H2 := Lib.hid h2
  have H3 := Lib.hid h3
  clear h0 hz h1 h2 h3
  have HAB := Lib.hid hab
  clear hab
  go_enter Tryz.func9, Tryz.ntmps9
  go_wp2_with fail
  obtain ⟨w0, hw0⟩ : ∃ w0, ((w.alloc (pObj a1 a2)).alloc (pObj b1 b2)).alloc (pObj (⟨#[48]⟩ : ByteArray) c2) = w0 := ⟨_, rfl⟩
  rw [hw0]
  have HB0 : Hid (Below w.heap.size w w0) := by rw [← hw0]; exact (((Below.refl _ w).alloc (Nat.le_refl _) _).alloc (by simp) _).alloc (by simp <;> omega) _
  have HA0 : Hid (Ats [(w.heap.size + 1 + 1, (⟨#[48]⟩ : ByteArray), c2), (w.heap.size + 1, b1, b2), (w.heap.size, a1, a2)] w0) := by
    rw [← hw0]
    exact Ats.three w a1 a2 b1 b2 (⟨#[48]⟩ : ByteArray) c2
  clear hw0
  refine (alive_any _ (HT.out.below HB0.out (Nat.le_refl _))).mono ?_
  rintro e w1 ⟨rfl, hb1⟩
  have HB1 := Lib.hid (HB0.out.trans (hb1.mono HB0.out.size))
  have HA1 := Lib.hid (HA0.out.after hb1 (Nat.le_refl _))
  clear hb1 HA0 HB0
  have m0 := HA1.out.c0 2 rfl
  have m1 := HA1.out.c1 2 rfl
  have m2 := HA1.out.c0 1 rfl
  have m3 := HA1.out.c1 1 rfl
  have m4 := HA1.out.c0 0 rfl
  have m5 := HA1.out.c1 0 rfl
  go_wp2_with fail
  clear m0 m1 m2 m3 m4 m5
  have hal := (Below.refl w1.heap.size w1).alloc (Nat.le_refl _) (.cells #[.string a1, .string a2, .string b1, .string b2, .string (⟨#[48]⟩ : ByteArray), .string c2] 24)
  have HBL := Lib.hid (HB1.out.trans (hal.mono HB1.out.size))
  have HAL := Lib.hid (HA1.out.after hal (Nat.le_refl _))
  clear hal HA1 HB1
  refine (short_any 60 (by decide) (pl_three _ a1 a2 b1 b2 (⟨#[48]⟩ : ByteArray) c2)).mono ?_
  rintro e w2 ⟨rfl, hb2⟩
  have HB2 := Lib.hid (HBL.out.trans (hb2.mono HBL.out.size))
  have HA2 := Lib.hid (HAL.out.after hb2 (Nat.le_refl _))
  clear hb2 HAL HBL
  rw [H0.out]
  have m0 := HA2.out.c0 2 rfl
  have m1 := HA2.out.c1 2 rfl
  go_wp2_with fail
  clear m0 m1
  refine (check_any a1 a2 _ HZ.out.1 HZ.out.2.1).mono ?_
  rintro e w3 ⟨rfl, hb3⟩
  have HB3 := Lib.hid (HB2.out.trans (hb3.mono HB2.out.size))
  have HA3 := Lib.hid (HA2.out.after hb3 (Nat.le_refl _))
  clear hb3 HA2 HB2
  rw [H1.out]
  have m0 := HA3.out.c0 1 rfl
  have m1 := HA3.out.c1 1 rfl
  go_wp2_with fail
  clear m0 m1
  refine (check_any b1 b2 _ HZ.out.2.2.1 HZ.out.2.2.2.1).mono ?_
  rintro e w4 ⟨rfl, hb4⟩
  have HB4 := Lib.hid (HB3.out.trans (hb4.mono HB3.out.size))
  have HA4 := Lib.hid (HA3.out.after hb4 (Nat.le_refl _))
  clear hb4 HA3 HB3
  rw [H2.out]
  have m0 := HA4.out.c0 0 rfl
  have m1 := HA4.out.c1 0 rfl
  go_wp2_with fail
  clear m0 m1
  refine (check_any (⟨#[48]⟩ : ByteArray) c2 _ HZ.out.2.2.2.2.1 HZ.out.2.2.2.2.2).mono ?_
  rintro e w5 ⟨rfl, hb5⟩
  have HB5 := Lib.hid (HB4.out.trans (hb5.mono HB4.out.size))
  have HA5 := Lib.hid (HA4.out.after hb5 (Nat.le_refl _))
  clear hb5 HA4 HB4
  rw [H3.out]
  have m0 := HA5.out.c0 2 rfl
  have m1 := HA5.out.c1 2 rfl
  have m2 := HA5.out.c0 1 rfl
  have m3 := HA5.out.c1 1 rfl
  go_wp2_with fail
  clear m0 m1 m2 m3
  refine (cmp_to ia.out ib.out e1.out _).mono ?_
  rintro e w6 ⟨rfl, hb6⟩
  have HB6 := Lib.hid (HB5.out.trans (hb6.mono HB5.out.size))
  have HA6 := Lib.hid (HA5.out.after hb6 (Nat.le_refl _))
  clear hb6 HA5 HB5
  have m0 := HA6.out.c0 2 rfl
  have m1 := HA6.out.c1 2 rfl
  have m2 := HA6.out.c0 1 rfl
  have m3 := HA6.out.c1 1 rfl
  go_wp2_with fail
  clear m0 m1 m2 m3
  refine (sub_less ia.out ib.out e2.out _ (HT.out.below HB6.out (Nat.le_refl _))).mono ?_
  rintro e w7 ⟨rfl, hb7⟩
  have HB7 : Hid (Below w.heap.size w (w7.alloc (pObj ⟨#[]⟩ ⟨#[]⟩))) := (HB6.out.trans (hb7.mono HB6.out.size)).alloc (Nat.le_trans HB6.out.size hb7.size) _
  have HA7 := Lib.hid ((HA6.out.after hb7 (Nat.le_refl _)).push ⟨#[]⟩ ⟨#[]⟩)
  clear hb7 HA6 HB6
  have m0 := HA7.out.c0 3 rfl
  have m1 := HA7.out.c1 3 rfl
  have m2 := HA7.out.c0 1 rfl
  have m3 := HA7.out.c1 1 rfl
  go_wp2_with fail
  clear m0 m1 m2 m3
  refine (add_to ia.out ic.out ix.out e3.out _ (HT.out.below HB7.out (Nat.le_refl _))).mono ?_
  rintro e w8 ⟨rfl, hb8⟩
  have HB8 : Hid (Below w.heap.size w (w8.alloc (pObj x1 x2))) := (HB7.out.trans (hb8.mono HB7.out.size)).alloc (Nat.le_trans HB7.out.size hb8.size) _
  have HA8 := Lib.hid ((HA7.out.after hb8 (Nat.le_refl _)).push x1 x2)
  clear hb8 HA7 HB7
  have m0 := HA8.out.c0 3 rfl
  have m1 := HA8.out.c1 3 rfl
  have m2 := HA8.out.c0 2 rfl
  have m3 := HA8.out.c1 2 rfl
  go_wp2_with fail
  clear m0 m1 m2 m3
  refine (add_to ib.out ic.out iy.out e4.out _ (HT.out.below HB8.out (Nat.le_refl _))).mono ?_
  rintro e w9 ⟨rfl, hb9⟩
  have HB9 : Hid (Below w.heap.size w (w9.alloc (pObj y1 y2))) := (HB8.out.trans (hb9.mono HB8.out.size)).alloc (Nat.le_trans HB8.out.size hb9.size) _
  have HA9 := Lib.hid ((HA8.out.after hb9 (Nat.le_refl _)).push y1 y2)
  clear hb9 HA8 HB8
  have m0 := HA9.out.c0 5 rfl
  have m1 := HA9.out.c1 5 rfl
  have m2 := HA9.out.c0 3 rfl
  have m3 := HA9.out.c1 3 rfl
  go_wp2_with fail
  clear m0 m1 m2 m3
  refine (mul_to ia.out ic.out ip.out e5.out _ (HT.out.below HB9.out (Nat.le_refl _))).mono ?_
  rintro e w10 ⟨rfl, hb10⟩
  have HB10 : Hid (Below w.heap.size w (w10.alloc (pObj p1 p2))) := (HB9.out.trans (hb10.mono HB9.out.size)).alloc (Nat.le_trans HB9.out.size hb10.size) _
  have HA10 := Lib.hid ((HA9.out.after hb10 (Nat.le_refl _)).push p1 p2)
  clear hb10 HA9 HB9
  have m0 := HA10.out.c0 5 rfl
  have m1 := HA10.out.c1 5 rfl
  have m2 := HA10.out.c0 4 rfl
  have m3 := HA10.out.c1 4 rfl
  go_wp2_with fail
  clear m0 m1 m2 m3
  refine (mul_to ib.out ic.out iq.out e6.out _ (HT.out.below HB10.out (Nat.le_refl _))).mono ?_
  rintro e w11 ⟨rfl, hb11⟩
  have HB11 : Hid (Below w.heap.size w (w11.alloc (pObj q1 q2))) := (HB10.out.trans (hb11.mono HB10.out.size)).alloc (Nat.le_trans HB10.out.size hb11.size) _
  have HA11 := Lib.hid ((HA10.out.after hb11 (Nat.le_refl _)).push q1 q2)
  clear hb11 HA10 HB10
  have m0 := HA11.out.c0 1 rfl
  have m1 := HA11.out.c1 1 rfl
  have m2 := HA11.out.c0 0 rfl
  have m3 := HA11.out.c1 0 rfl
  go_wp2_with fail
  clear m0 m1 m2 m3
  refine (cmp_to ip.out iq.out e7.out _).mono ?_
  rintro e w12 ⟨rfl, hb12⟩
  have HB12 := Lib.hid (HB11.out.trans (hb12.mono HB11.out.size))
  have HA12 := Lib.hid (HA11.out.after hb12 (Nat.le_refl _))
  clear hb12 HA11 HB11
  have m0 := HA12.out.c0 5 rfl
  have m1 := HA12.out.c1 5 rfl
  have m2 := HA12.out.c0 6 rfl
  have m3 := HA12.out.c1 6 rfl
  have m4 := HA12.out.c0 7 rfl
  have m5 := HA12.out.c1 7 rfl
  go_wp2_with fail
  clear m0 m1 m2 m3 m4 m5
  refine (cmp_to ib.out ia.out e8.out _).mono ?_
  rintro e w13 ⟨rfl, hb13⟩
  have HB13 := Lib.hid (HB12.out.trans (hb13.mono HB12.out.size))
  have HA13 := Lib.hid (HA12.out.after hb13 (Nat.le_refl _))
  clear hb13 HA12 HB12
  have hab := HAB.out
  clear HAB
  cases g1 : (a1.toList == b1.toList)
  · clear hab
    have m0 := HA13.out.c0 7 rfl
    have m1 := HA13.out.c1 7 rfl
    have m2 := HA13.out.c0 6 rfl
    have m3 := HA13.out.c1 6 rfl
    have m4 := HA13.out.c0 3 rfl
    have m5 := HA13.out.c1 3 rfl
    have m6 := HA13.out.c0 2 rfl
    have m7 := HA13.out.c1 2 rfl
    go_wp2_with fail
    clear m0 m1 m2 m3 m4 m5 m6 m7
    refine (cmp_to ix.out iy.out e9.out _).mono ?_
    rintro e w14 ⟨rfl, hb14⟩
    have HB14 := Lib.hid (HB13.out.trans (hb14.mono HB13.out.size))
    have HA14 := Lib.hid (HA13.out.after hb14 (Nat.le_refl _))
    clear hb14 HA13 HB13
    go_wp2
    go_ret
    exact ⟨rfl, HB14.out⟩
  · have g2 := hab g1
    clear hab
    have m0 := HA13.out.c0 7 rfl
    have m1 := HA13.out.c1 7 rfl
    have m2 := HA13.out.c0 6 rfl
    have m3 := HA13.out.c1 6 rfl
    have m4 := HA13.out.c0 3 rfl
    have m5 := HA13.out.c1 3 rfl
    have m6 := HA13.out.c0 2 rfl
    have m7 := HA13.out.c1 2 rfl
    go_wp2_with fail
    clear m0 m1 m2 m3 m4 m5 m6 m7
    refine (cmp_to ix.out iy.out e9.out _).mono ?_
    rintro e w14 ⟨rfl, hb14⟩
    have HB14 := Lib.hid (HB13.out.trans (hb14.mono HB13.out.size))
    have HA14 := Lib.hid (HA13.out.after hb14 (Nat.le_refl _))
    clear hb14 HA13 HB13
    go_wp2
    go_ret
    exact ⟨rfl, HB14.out⟩
set_option maxRecDepth 100000 in
set_option maxHeartbeats 8000000 in
theorem orders_main11 {qa qb qc qd qx qy qp qq : Rat} {a1 a2 c2 d1 d2 x1 x2 y1 y2 p1 p2 q1 q2 : ByteArray} (w : World) (hT : Tabs w) (h0 : shortB 60 [(a1, a2), (a1, a2), ((⟨#[48]⟩ : ByteArray), c2)] = true) (hz : a1.size ≤ 1000000 ∧ a2.size ≤ 1000000 ∧ a1.size ≤ 1000000 ∧ a2.size ≤ 1000000 ∧ (⟨#[48]⟩ : ByteArray).size ≤ 1000000 ∧ c2.size ≤ 1000000) (h1 : okE a1 a2 = 0) (h2 : okE a1 a2 = 0) (h3 : okE (⟨#[48]⟩ : ByteArray) c2 = 0)
    (ia : Hid (IsP qa a1 a2)) (ib : Hid (IsP qb a1 a2)) (ic : Hid (IsP qc (⟨#[48]⟩ : ByteArray) c2)) (id : Hid (IsP qd d1 d2)) (ix : Hid (IsP qx x1 x2)) (iy : Hid (IsP qy y1 y2)) (ip : Hid (IsP qp p1 p2)) (iq : Hid (IsP qq q1 q2)) (e1 : Hid (sgnR qa qb = 0)) (e2 : Hid (qa - qb = qd)) (e3 : Hid (qa + qc = qx)) (e4 : Hid (qb + qc = qy)) (e5 : Hid (qa * qc = qp)) (e6 : Hid (qb * qc = qq)) (e7 : Hid (sgnR qp qq = 0)) (e8 : Hid (sgnR qb qa = 0)) (e9 : Hid (sgnR qx qy = 0)) :
    Calls Tryz.prog 9 #[pV a1 a2, pV a1 a2, pV (⟨#[48]⟩ : ByteArray) c2] w (BoolPost w true) := by
  have HT := Lib.hid hT
  clear hT
  have H0 := Lib.hid h0
  have HZ := Lib.hid hz
  have H1 := Lib.hid h1
  have H2 := Lib.hid h2
  have H3 := Lib.hid h3
  clear h0 hz h1 h2 h3
  go_enter Tryz.func9, Tryz.ntmps9
  go_wp2_with fail
  obtain ⟨w0, hw0⟩ : ∃ w0, ((w.alloc (pObj a1 a2)).alloc (pObj a1 a2)).alloc (pObj (⟨#[48]⟩ : ByteArray) c2) = w0 := ⟨_, rfl⟩
  rw [hw0]
  have HB0 : Hid (Below w.heap.size w w0) := by rw [← hw0]; exact (((Below.refl _ w).alloc (Nat.le_refl _) _).alloc (by simp) _).alloc (by simp <;> omega) _
  have HA0 : Hid (Ats [(w.heap.size + 1 + 1, (⟨#[48]⟩ : ByteArray), c2), (w.heap.size + 1, a1, a2), (w.heap.size, a1, a2)] w0) := by
    rw [← hw0]
    exact Ats.three w a1 a2 a1 a2 (⟨#[48]⟩ : ByteArray) c2
  clear hw0
  refine (alive_any _ (HT.out.below HB0.out (Nat.le_refl _))).mono ?_
  rintro e w1 ⟨rfl, hb1⟩
  have HB1 := Lib.hid (HB0.out.trans (hb1.mono HB0.out.size))
  have HA1 := Lib.hid (HA0.out.after hb1 (Nat.le_refl _))
  clear hb1 HA0 HB0
  have m0 := HA1.out.c0 2 rfl
  have m1 := HA1.out.c1 2 rfl
  have m2 := HA1.out.c0 1 rfl
  have m3 := HA1.out.c1 1 rfl
  have m4 := HA1.out.c0 0 rfl
  have m5 := HA1.out.c1 0 rfl
  go_wp2_with fail
  clear m0 m1 m2 m3 m4 m5
  have hal := (Below.refl w1.heap.size w1).alloc (Nat.le_refl _) (.cells #[.string a1, .string a2, .string a1, .string a2, .string (⟨#[48]⟩ : ByteArray), .string c2] 24)
  have HBL := Lib.hid (HB1.out.trans (hal.mono HB1.out.size))
  have HAL := Lib.hid (HA1.out.after hal (Nat.le_refl _))
  clear hal HA1 HB1
  refine (short_any 60 (by decide) (pl_three _ a1 a2 a1 a2 (⟨#[48]⟩ : ByteArray) c2)).mono ?_
  rintro e w2 ⟨rfl, hb2⟩
  have HB2 := Lib.hid (HBL.out.trans (hb2.mono HBL.out.size))
  have HA2 := Lib.hid (HAL.out.after hb2 (Nat.le_refl _))
  clear hb2 HAL HBL
  rw [H0.out]
  have m0 := HA2.out.c0 2 rfl
  have m1 := HA2.out.c1 2 rfl
  go_wp2_with fail
  clear m0 m1
  refine (check_any a1 a2 _ HZ.out.1 HZ.out.2.1).mono ?_
  rintro e w3 ⟨rfl, hb3⟩
  have HB3 := Lib.hid (HB2.out.trans (hb3.mono HB2.out.size))
  have HA3 := Lib.hid (HA2.out.after hb3 (Nat.le_refl _))
  clear hb3 HA2 HB2
  rw [H1.out]
  have m0 := HA3.out.c0 1 rfl
  have m1 := HA3.out.c1 1 rfl
  go_wp2_with fail
  clear m0 m1
  refine (check_any a1 a2 _ HZ.out.2.2.1 HZ.out.2.2.2.1).mono ?_
  rintro e w4 ⟨rfl, hb4⟩
  have HB4 := Lib.hid (HB3.out.trans (hb4.mono HB3.out.size))
  have HA4 := Lib.hid (HA3.out.after hb4 (Nat.le_refl _))
  clear hb4 HA3 HB3
  rw [H2.out]
  have m0 := HA4.out.c0 0 rfl
  have m1 := HA4.out.c1 0 rfl
  go_wp2_with fail
  clear m0 m1
  refine (check_any (⟨#[48]⟩ : ByteArray) c2 _ HZ.out.2.2.2.2.1 HZ.out.2.2.2.2.2).mono ?_
  rintro e w5 ⟨rfl, hb5⟩
  have HB5 := Lib.hid (HB4.out.trans (hb5.mono HB4.out.size))
  have HA5 := Lib.hid (HA4.out.after hb5 (Nat.le_refl _))
  clear hb5 HA4 HB4
  rw [H3.out]
  have m0 := HA5.out.c0 2 rfl
  have m1 := HA5.out.c1 2 rfl
  have m2 := HA5.out.c0 1 rfl
  have m3 := HA5.out.c1 1 rfl
  go_wp2_with fail
  clear m0 m1 m2 m3
  refine (cmp_to ia.out ib.out e1.out _).mono ?_
  rintro e w6 ⟨rfl, hb6⟩
  have HB6 := Lib.hid (HB5.out.trans (hb6.mono HB5.out.size))
  have HA6 := Lib.hid (HA5.out.after hb6 (Nat.le_refl _))
  clear hb6 HA5 HB5
  have m0 := HA6.out.c0 2 rfl
  have m1 := HA6.out.c1 2 rfl
  have m2 := HA6.out.c0 1 rfl
  have m3 := HA6.out.c1 1 rfl
  go_wp2_with fail
  clear m0 m1 m2 m3
  refine (sub_to ia.out ib.out id.out e2.out _ (HT.out.below HB6.out (Nat.le_refl _))).mono ?_
  rintro e w7 ⟨rfl, hb7⟩
  have HB7 : Hid (Below w.heap.size w (w7.alloc (pObj d1 d2))) := (HB6.out.trans (hb7.mono HB6.out.size)).alloc (Nat.le_trans HB6.out.size hb7.size) _
  have HA7 := Lib.hid ((HA6.out.after hb7 (Nat.le_refl _)).push d1 d2)
  clear hb7 HA6 HB6
  have m0 := HA7.out.c0 3 rfl
  have m1 := HA7.out.c1 3 rfl
  have m2 := HA7.out.c0 1 rfl
  have m3 := HA7.out.c1 1 rfl
  go_wp2_with fail
  clear m0 m1 m2 m3
  refine (add_to ia.out ic.out ix.out e3.out _ (HT.out.below HB7.out (Nat.le_refl _))).mono ?_
  rintro e w8 ⟨rfl, hb8⟩
  have HB8 : Hid (Below w.heap.size w (w8.alloc (pObj x1 x2))) := (HB7.out.trans (hb8.mono HB7.out.size)).alloc (Nat.le_trans HB7.out.size hb8.size) _
  have HA8 := Lib.hid ((HA7.out.after hb8 (Nat.le_refl _)).push x1 x2)
  clear hb8 HA7 HB7
  have m0 := HA8.out.c0 3 rfl
  have m1 := HA8.out.c1 3 rfl
  have m2 := HA8.out.c0 2 rfl
  have m3 := HA8.out.c1 2 rfl
  go_wp2_with fail
  clear m0 m1 m2 m3
  refine (add_to ib.out ic.out iy.out e4.out _ (HT.out.below HB8.out (Nat.le_refl _))).mono ?_
  rintro e w9 ⟨rfl, hb9⟩
  have HB9 : Hid (Below w.heap.size w (w9.alloc (pObj y1 y2))) := (HB8.out.trans (hb9.mono HB8.out.size)).alloc (Nat.le_trans HB8.out.size hb9.size) _
  have HA9 := Lib.hid ((HA8.out.after hb9 (Nat.le_refl _)).push y1 y2)
  clear hb9 HA8 HB8
  have m0 := HA9.out.c0 5 rfl
  have m1 := HA9.out.c1 5 rfl
  have m2 := HA9.out.c0 3 rfl
  have m3 := HA9.out.c1 3 rfl
  go_wp2_with fail
  clear m0 m1 m2 m3
  refine (mul_to ia.out ic.out ip.out e5.out _ (HT.out.below HB9.out (Nat.le_refl _))).mono ?_
  rintro e w10 ⟨rfl, hb10⟩
  have HB10 : Hid (Below w.heap.size w (w10.alloc (pObj p1 p2))) := (HB9.out.trans (hb10.mono HB9.out.size)).alloc (Nat.le_trans HB9.out.size hb10.size) _
  have HA10 := Lib.hid ((HA9.out.after hb10 (Nat.le_refl _)).push p1 p2)
  clear hb10 HA9 HB9
  have m0 := HA10.out.c0 5 rfl
  have m1 := HA10.out.c1 5 rfl
  have m2 := HA10.out.c0 4 rfl
  have m3 := HA10.out.c1 4 rfl
  go_wp2_with fail
  clear m0 m1 m2 m3
  refine (mul_to ib.out ic.out iq.out e6.out _ (HT.out.below HB10.out (Nat.le_refl _))).mono ?_
  rintro e w11 ⟨rfl, hb11⟩
  have HB11 : Hid (Below w.heap.size w (w11.alloc (pObj q1 q2))) := (HB10.out.trans (hb11.mono HB10.out.size)).alloc (Nat.le_trans HB10.out.size hb11.size) _
  have HA11 := Lib.hid ((HA10.out.after hb11 (Nat.le_refl _)).push q1 q2)
  clear hb11 HA10 HB10
  have m0 := HA11.out.c0 1 rfl
  have m1 := HA11.out.c1 1 rfl
  have m2 := HA11.out.c0 0 rfl
  have m3 := HA11.out.c1 0 rfl
  go_wp2_with fail
  clear m0 m1 m2 m3
  refine (cmp_to ip.out iq.out e7.out _).mono ?_
  rintro e w12 ⟨rfl, hb12⟩
  have HB12 := Lib.hid (HB11.out.trans (hb12.mono HB11.out.size))
  have HA12 := Lib.hid (HA11.out.after hb12 (Nat.le_refl _))
  clear hb12 HA11 HB11
  have m0 := HA12.out.c0 5 rfl
  have m1 := HA12.out.c1 5 rfl
  have m2 := HA12.out.c0 6 rfl
  have m3 := HA12.out.c1 6 rfl
  have m4 := HA12.out.c0 7 rfl
  have m5 := HA12.out.c1 7 rfl
  go_wp2_with fail
  clear m0 m1 m2 m3 m4 m5
  refine (cmp_to ib.out ia.out e8.out _).mono ?_
  rintro e w13 ⟨rfl, hb13⟩
  have HB13 := Lib.hid (HB12.out.trans (hb13.mono HB12.out.size))
  have HA13 := Lib.hid (HA12.out.after hb13 (Nat.le_refl _))
  clear hb13 HA12 HB12
  have m0 := HA13.out.c0 7 rfl
  have m1 := HA13.out.c1 7 rfl
  have m2 := HA13.out.c0 6 rfl
  have m3 := HA13.out.c1 6 rfl
  have m4 := HA13.out.c0 3 rfl
  have m5 := HA13.out.c1 3 rfl
  have m6 := HA13.out.c0 2 rfl
  have m7 := HA13.out.c1 2 rfl
  go_wp2_with fail
  clear m0 m1 m2 m3 m4 m5 m6 m7
  refine (cmp_to ix.out iy.out e9.out _).mono ?_
  rintro e w14 ⟨rfl, hb14⟩
  have HB14 := Lib.hid (HB13.out.trans (hb14.mono HB13.out.size))
  have HA14 := Lib.hid (HA13.out.after hb14 (Nat.le_refl _))
  clear hb14 HA13 HB13
  go_wp2
  go_ret
  exact ⟨rfl, HB14.out⟩
set_option maxRecDepth 100000 in
set_option maxHeartbeats 8000000 in
theorem orders_main12 {qa qb qc qd qx qy qp qq : Rat} {a1 a2 b1 b2 c2 d1 d2 x1 x2 y1 y2 p1 p2 q1 q2 : ByteArray} (w : World) (hT : Tabs w) (h0 : shortB 60 [(a1, a2), (b1, b2), ((⟨#[48]⟩ : ByteArray), c2)] = true) (hz : a1.size ≤ 1000000 ∧ a2.size ≤ 1000000 ∧ b1.size ≤ 1000000 ∧ b2.size ≤ 1000000 ∧ (⟨#[48]⟩ : ByteArray).size ≤ 1000000 ∧ c2.size ≤ 1000000) (h1 : okE a1 a2 = 0) (h2 : okE b1 b2 = 0) (h3 : okE (⟨#[48]⟩ : ByteArray) c2 = 0)
    (ia : Hid (IsP qa a1 a2)) (ib : Hid (IsP qb b1 b2)) (ic : Hid (IsP qc (⟨#[48]⟩ : ByteArray) c2)) (id : Hid (IsP qd d1 d2)) (ix : Hid (IsP qx x1 x2)) (iy : Hid (IsP qy y1 y2)) (ip : Hid (IsP qp p1 p2)) (iq : Hid (IsP qq q1 q2)) (e1 : Hid (sgnR qa qb = 1)) (e2 : Hid (qa - qb = qd)) (e3 : Hid (qa + qc = qx)) (e4 : Hid (qb + qc = qy)) (e5 : Hid (qa * qc = qp)) (e6 : Hid (qb * qc = qq)) (e7 : Hid (sgnR qp qq = 0)) (e8 : Hid (sgnR qb qa = -1)) (e9 : Hid (sgnR qx qy = 1)) (hab : (a1.toList == b1.toList) = true → (a2.toList == b2.toList) = false) :
    Calls Tryz.prog 9 #[pV a1 a2, pV b1 b2, pV (⟨#[48]⟩ : ByteArray) c2] w (BoolPost w true) := by
  have HT := Lib.hid hT
  clear hT
  have H0 := Lib.hid h0
  have HZ := Lib.hid hz
  have H1 := Lib.hid h1
  have H2 := Lib.hid h2
  have H3 := Lib.hid h3
  clear h0 hz h1 h2 h3
  have HAB := Lib.hid hab
  clear hab
  go_enter Tryz.func9, Tryz.ntmps9
  go_wp2_with fail
  obtain ⟨w0, hw0⟩ : ∃ w0, ((w.alloc (pObj a1 a2)).alloc (pObj b1 b2)).alloc (pObj (⟨#[48]⟩ : ByteArray) c2) = w0 := ⟨_, rfl⟩
  rw [hw0]
  have HB0 : Hid (Below w.heap.size w w0) := by rw [← hw0]; exact (((Below.refl _ w).alloc (Nat.le_refl _) _).alloc (by simp) _).alloc (by simp <;> omega) _
  have HA0 : Hid (Ats [(w.heap.size + 1 + 1, (⟨#[48]⟩ : ByteArray), c2), (w.heap.size + 1, b1, b2), (w.heap.size, a1, a2)] w0) := by
    rw [← hw0]
    exact Ats.three w a1 a2 b1 b2 (⟨#[48]⟩ : ByteArray) c2
  clear hw0
  refine (alive_any _ (HT.out.below HB0.out (Nat.le_refl _))).mono ?_
  rintro e w1 ⟨rfl, hb1⟩
  have HB1 := Lib.hid (HB0.out.trans (hb1.mono HB0.out.size))
  have HA1 := Lib.hid (HA0.out.after hb1 (Nat.le_refl _))
  clear hb1 HA0 HB0
  have m0 := HA1.out.c0 2 rfl
  have m1 := HA1.out.c1 2 rfl
  have m2 := HA1.out.c0 1 rfl
  have m3 := HA1.out.c1 1 rfl
  have m4 := HA1.out.c0 0 rfl
  have m5 := HA1.out.c1 0 rfl
  go_wp2_with fail
  clear m0 m1 m2 m3 m4 m5
  have hal := (Below.refl w1.heap.size w1).alloc (Nat.le_refl _) (.cells #[.string a1, .string a2, .string b1, .string b2, .string (⟨#[48]⟩ : ByteArray), .string c2] 24)
  have HBL := Lib.hid (HB1.out.trans (hal.mono HB1.out.size))
  have HAL := Lib.hid (HA1.out.after hal (Nat.le_refl _))
  clear hal HA1 HB1
  refine (short_any 60 (by decide) (pl_three _ a1 a2 b1 b2 (⟨#[48]⟩ : ByteArray) c2)).mono ?_
  rintro e w2 ⟨rfl, hb2⟩
  have HB2 := Lib.hid (HBL.out.trans (hb2.mono HBL.out.size))
  have HA2 := Lib.hid (HAL.out.after hb2 (Nat.le_refl _))
  clear hb2 HAL HBL
  rw [H0.out]
  have m0 := HA2.out.c0 2 rfl
  have m1 := HA2.out.c1 2 rfl
  go_wp2_with fail
  clear m0 m1
  refine (check_any a1 a2 _ HZ.out.1 HZ.out.2.1).mono ?_
  rintro e w3 ⟨rfl, hb3⟩
  have HB3 := Lib.hid (HB2.out.trans (hb3.mono HB2.out.size))
  have HA3 := Lib.hid (HA2.out.after hb3 (Nat.le_refl _))
  clear hb3 HA2 HB2
  rw [H1.out]
  have m0 := HA3.out.c0 1 rfl
  have m1 := HA3.out.c1 1 rfl
  go_wp2_with fail
  clear m0 m1
  refine (check_any b1 b2 _ HZ.out.2.2.1 HZ.out.2.2.2.1).mono ?_
  rintro e w4 ⟨rfl, hb4⟩
  have HB4 := Lib.hid (HB3.out.trans (hb4.mono HB3.out.size))
  have HA4 := Lib.hid (HA3.out.after hb4 (Nat.le_refl _))
  clear hb4 HA3 HB3
  rw [H2.out]
  have m0 := HA4.out.c0 0 rfl
  have m1 := HA4.out.c1 0 rfl
  go_wp2_with fail
  clear m0 m1
  refine (check_any (⟨#[48]⟩ : ByteArray) c2 _ HZ.out.2.2.2.2.1 HZ.out.2.2.2.2.2).mono ?_
  rintro e w5 ⟨rfl, hb5⟩
  have HB5 := Lib.hid (HB4.out.trans (hb5.mono HB4.out.size))
  have HA5 := Lib.hid (HA4.out.after hb5 (Nat.le_refl _))
  clear hb5 HA4 HB4
  rw [H3.out]
  have m0 := HA5.out.c0 2 rfl
  have m1 := HA5.out.c1 2 rfl
  have m2 := HA5.out.c0 1 rfl
  have m3 := HA5.out.c1 1 rfl
  go_wp2_with fail
  clear m0 m1 m2 m3
  refine (cmp_to ia.out ib.out e1.out _).mono ?_
  rintro e w6 ⟨rfl, hb6⟩
  have HB6 := Lib.hid (HB5.out.trans (hb6.mono HB5.out.size))
  have HA6 := Lib.hid (HA5.out.after hb6 (Nat.le_refl _))
  clear hb6 HA5 HB5
  have m0 := HA6.out.c0 2 rfl
  have m1 := HA6.out.c1 2 rfl
  have m2 := HA6.out.c0 1 rfl
  have m3 := HA6.out.c1 1 rfl
  go_wp2_with fail
  clear m0 m1 m2 m3
  refine (sub_to ia.out ib.out id.out e2.out _ (HT.out.below HB6.out (Nat.le_refl _))).mono ?_
  rintro e w7 ⟨rfl, hb7⟩
  have HB7 : Hid (Below w.heap.size w (w7.alloc (pObj d1 d2))) := (HB6.out.trans (hb7.mono HB6.out.size)).alloc (Nat.le_trans HB6.out.size hb7.size) _
  have HA7 := Lib.hid ((HA6.out.after hb7 (Nat.le_refl _)).push d1 d2)
  clear hb7 HA6 HB6
  have m0 := HA7.out.c0 3 rfl
  have m1 := HA7.out.c1 3 rfl
  have m2 := HA7.out.c0 1 rfl
  have m3 := HA7.out.c1 1 rfl
  go_wp2_with fail
  clear m0 m1 m2 m3
  refine (add_to ia.out ic.out ix.out e3.out _ (HT.out.below HB7.out (Nat.le_refl _))).mono ?_
  rintro e w8 ⟨rfl, hb8⟩
  have HB8 : Hid (Below w.heap.size w (w8.alloc (pObj x1 x2))) := (HB7.out.trans (hb8.mono HB7.out.size)).alloc (Nat.le_trans HB7.out.size hb8.size) _
  have HA8 := Lib.hid ((HA7.out.after hb8 (Nat.le_refl _)).push x1 x2)
  clear hb8 HA7 HB7
  have m0 := HA8.out.c0 3 rfl
  have m1 := HA8.out.c1 3 rfl
  have m2 := HA8.out.c0 2 rfl
  have m3 := HA8.out.c1 2 rfl
  go_wp2_with fail
  clear m0 m1 m2 m3
  refine (add_to ib.out ic.out iy.out e4.out _ (HT.out.below HB8.out (Nat.le_refl _))).mono ?_
  rintro e w9 ⟨rfl, hb9⟩
  have HB9 : Hid (Below w.heap.size w (w9.alloc (pObj y1 y2))) := (HB8.out.trans (hb9.mono HB8.out.size)).alloc (Nat.le_trans HB8.out.size hb9.size) _
  have HA9 := Lib.hid ((HA8.out.after hb9 (Nat.le_refl _)).push y1 y2)
  clear hb9 HA8 HB8
  have m0 := HA9.out.c0 5 rfl
  have m1 := HA9.out.c1 5 rfl
  have m2 := HA9.out.c0 3 rfl
  have m3 := HA9.out.c1 3 rfl
  go_wp2_with fail
  clear m0 m1 m2 m3
  refine (mul_to ia.out ic.out ip.out e5.out _ (HT.out.below HB9.out (Nat.le_refl _))).mono ?_
  rintro e w10 ⟨rfl, hb10⟩
  have HB10 : Hid (Below w.heap.size w (w10.alloc (pObj p1 p2))) := (HB9.out.trans (hb10.mono HB9.out.size)).alloc (Nat.le_trans HB9.out.size hb10.size) _
  have HA10 := Lib.hid ((HA9.out.after hb10 (Nat.le_refl _)).push p1 p2)
  clear hb10 HA9 HB9
  have m0 := HA10.out.c0 5 rfl
  have m1 := HA10.out.c1 5 rfl
  have m2 := HA10.out.c0 4 rfl
  have m3 := HA10.out.c1 4 rfl
  go_wp2_with fail
  clear m0 m1 m2 m3
  refine (mul_to ib.out ic.out iq.out e6.out _ (HT.out.below HB10.out (Nat.le_refl _))).mono ?_
  rintro e w11 ⟨rfl, hb11⟩
  have HB11 : Hid (Below w.heap.size w (w11.alloc (pObj q1 q2))) := (HB10.out.trans (hb11.mono HB10.out.size)).alloc (Nat.le_trans HB10.out.size hb11.size) _
  have HA11 := Lib.hid ((HA10.out.after hb11 (Nat.le_refl _)).push q1 q2)
  clear hb11 HA10 HB10
  have m0 := HA11.out.c0 1 rfl
  have m1 := HA11.out.c1 1 rfl
  have m2 := HA11.out.c0 0 rfl
  have m3 := HA11.out.c1 0 rfl
  go_wp2_with fail
  clear m0 m1 m2 m3
  refine (cmp_to ip.out iq.out e7.out _).mono ?_
  rintro e w12 ⟨rfl, hb12⟩
  have HB12 := Lib.hid (HB11.out.trans (hb12.mono HB11.out.size))
  have HA12 := Lib.hid (HA11.out.after hb12 (Nat.le_refl _))
  clear hb12 HA11 HB11
  have m0 := HA12.out.c0 5 rfl
  have m1 := HA12.out.c1 5 rfl
  have m2 := HA12.out.c0 6 rfl
  have m3 := HA12.out.c1 6 rfl
  have m4 := HA12.out.c0 7 rfl
  have m5 := HA12.out.c1 7 rfl
  go_wp2_with fail
  clear m0 m1 m2 m3 m4 m5
  refine (cmp_to ib.out ia.out e8.out _).mono ?_
  rintro e w13 ⟨rfl, hb13⟩
  have HB13 := Lib.hid (HB12.out.trans (hb13.mono HB12.out.size))
  have HA13 := Lib.hid (HA12.out.after hb13 (Nat.le_refl _))
  clear hb13 HA12 HB12
  have hab := HAB.out
  clear HAB
  cases g1 : (a1.toList == b1.toList)
  · clear hab
    have m0 := HA13.out.c0 7 rfl
    have m1 := HA13.out.c1 7 rfl
    have m2 := HA13.out.c0 6 rfl
    have m3 := HA13.out.c1 6 rfl
    have m4 := HA13.out.c0 3 rfl
    have m5 := HA13.out.c1 3 rfl
    have m6 := HA13.out.c0 2 rfl
    have m7 := HA13.out.c1 2 rfl
    go_wp2_with fail
    clear m0 m1 m2 m3 m4 m5 m6 m7
    refine (cmp_to ix.out iy.out e9.out _).mono ?_
    rintro e w14 ⟨rfl, hb14⟩
    have HB14 := Lib.hid (HB13.out.trans (hb14.mono HB13.out.size))
    have HA14 := Lib.hid (HA13.out.after hb14 (Nat.le_refl _))
    clear hb14 HA13 HB13
    go_wp2
    go_ret
    exact ⟨rfl, HB14.out⟩
  · have g2 := hab g1
    clear hab
    have m0 := HA13.out.c0 7 rfl
    have m1 := HA13.out.c1 7 rfl
    have m2 := HA13.out.c0 6 rfl
    have m3 := HA13.out.c1 6 rfl
    have m4 := HA13.out.c0 3 rfl
    have m5 := HA13.out.c1 3 rfl
    have m6 := HA13.out.c0 2 rfl
    have m7 := HA13.out.c1 2 rfl
    go_wp2_with fail
    clear m0 m1 m2 m3 m4 m5 m6 m7
    refine (cmp_to ix.out iy.out e9.out _).mono ?_
    rintro e w14 ⟨rfl, hb14⟩
    have HB14 := Lib.hid (HB13.out.trans (hb14.mono HB13.out.size))
    have HA14 := Lib.hid (HA13.out.after hb14 (Nat.le_refl _))
    clear hb14 HA13 HB13
    go_wp2
    go_ret
    exact ⟨rfl, HB14.out⟩
end Go.Proofs.YthbpadjhlkdpeaaGreatDoor
