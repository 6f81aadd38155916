/- The parts LawField of a proof, put together by program (merge.py). -/
import Derived.Test.YthbpadjhlkdpeaaGreatDoorG17
/- WeightField's walk: by program (field.py). -/
namespace Go.Proofs.YthbpadjhlkdpeaaGreatDoor
open Go.RowKit Go.Shelf

set_option maxRecDepth 100000 in
set_option maxHeartbeats 8000000 in
theorem field_early0 (a1 a2 b1 b2 c1 c2 : ByteArray) (w : World) (hT : Tabs w) (h0 : shortB 60 [(a1, a2), (b1, b2), (c1, c2)] = false) :
    Calls Tryz.prog 8 #[pV a1 a2, pV b1 b2, pV c1 c2] w (BoolPost w true) := by
  have HT := Lib.hid hT
  clear hT
  have H0 := Lib.hid h0
  clear h0
  go_enter Tryz.func8, Tryz.ntmps8
  go_wp2_with fail
  obtain ⟨w0, hw0⟩ : ∃ w0, ((w.alloc (pObj a1 a2)).alloc (pObj b1 b2)).alloc (pObj c1 c2) = w0 := ⟨_, rfl⟩
  rw [hw0]
  have HB0 : Hid (Below w.heap.size w w0) := by rw [← hw0]; exact (((Below.refl _ w).alloc (Nat.le_refl _) _).alloc (by simp) _).alloc (by simp <;> omega) _
  have HA0 : Hid (Ats [(w.heap.size + 1 + 1, c1, c2), (w.heap.size + 1, b1, b2), (w.heap.size, a1, a2)] w0) := by
    rw [← hw0]
    exact Ats.three w a1 a2 b1 b2 c1 c2
  clear hw0
  refine (alive_any _ (HT.out.below HB0.out (Nat.le_refl _))).mono ?_
  rintro e w1 ⟨rfl, hb1⟩
  have HB1 := Lib.hid (HB0.out.trans (hb1.mono HB0.out.size))
  have HA1 := Lib.hid (HA0.out.after hb1 (Nat.le_refl _))
  clear hb1 HA0 HB0
  have m0 := HA1.out.c0 2 rfl
  have m1 := HA1.out.c1 2 rfl
  have m2 := HA1.out.c0 1 rfl
  have m3 := HA1.out.c1 1 rfl
  have m4 := HA1.out.c0 0 rfl
  have m5 := HA1.out.c1 0 rfl
  go_wp2_with fail
  clear m0 m1 m2 m3 m4 m5
  have hal := (Below.refl w1.heap.size w1).alloc (Nat.le_refl _) (.cells #[.string a1, .string a2, .string b1, .string b2, .string c1, .string c2] 24)
  have HBL := Lib.hid (HB1.out.trans (hal.mono HB1.out.size))
  have HAL := Lib.hid (HA1.out.after hal (Nat.le_refl _))
  clear hal HA1 HB1
  refine (short_any 60 (by decide) (pl_three _ a1 a2 b1 b2 c1 c2)).mono ?_
  rintro e w2 ⟨rfl, hb2⟩
  have HB2 := Lib.hid (HBL.out.trans (hb2.mono HBL.out.size))
  have HA2 := Lib.hid (HAL.out.after hb2 (Nat.le_refl _))
  clear hb2 HAL HBL
  rw [H0.out]
  go_wp2
  go_ret
  exact ⟨rfl, HB2.out⟩
set_option maxRecDepth 100000 in
set_option maxHeartbeats 8000000 in
theorem field_early1 (a1 a2 b1 b2 c1 c2 : ByteArray) (w : World) (hT : Tabs w) (h0 : shortB 60 [(a1, a2), (b1, b2), (c1, c2)] = true) (hz : a1.size ≤ 1000000 ∧ a2.size ≤ 1000000 ∧ b1.size ≤ 1000000 ∧ b2.size ≤ 1000000 ∧ c1.size ≤ 1000000 ∧ c2.size ≤ 1000000) (h1 : okE a1 a2 = 2) :
    Calls Tryz.prog 8 #[pV a1 a2, pV b1 b2, pV c1 c2] w (BoolPost w true) := by
  have HT := Lib.hid hT
  clear hT
  have H0 := Lib.hid h0
  have HZ := Lib.hid hz
  clear hz
  have H1 := Lib.hid h1
  clear h0 h1
  go_enter Tryz.func8, Tryz.ntmps8
  go_wp2_with fail
  obtain ⟨w0, hw0⟩ : ∃ w0, ((w.alloc (pObj a1 a2)).alloc (pObj b1 b2)).alloc (pObj c1 c2) = w0 := ⟨_, rfl⟩
  rw [hw0]
  have HB0 : Hid (Below w.heap.size w w0) := by rw [← hw0]; exact (((Below.refl _ w).alloc (Nat.le_refl _) _).alloc (by simp) _).alloc (by simp <;> omega) _
  have HA0 : Hid (Ats [(w.heap.size + 1 + 1, c1, c2), (w.heap.size + 1, b1, b2), (w.heap.size, a1, a2)] w0) := by
    rw [← hw0]
    exact Ats.three w a1 a2 b1 b2 c1 c2
  clear hw0
  refine (alive_any _ (HT.out.below HB0.out (Nat.le_refl _))).mono ?_
  rintro e w1 ⟨rfl, hb1⟩
  have HB1 := Lib.hid (HB0.out.trans (hb1.mono HB0.out.size))
  have HA1 := Lib.hid (HA0.out.after hb1 (Nat.le_refl _))
  clear hb1 HA0 HB0
  have m0 := HA1.out.c0 2 rfl
  have m1 := HA1.out.c1 2 rfl
  have m2 := HA1.out.c0 1 rfl
  have m3 := HA1.out.c1 1 rfl
  have m4 := HA1.out.c0 0 rfl
  have m5 := HA1.out.c1 0 rfl
  go_wp2_with fail
  clear m0 m1 m2 m3 m4 m5
  have hal := (Below.refl w1.heap.size w1).alloc (Nat.le_refl _) (.cells #[.string a1, .string a2, .string b1, .string b2, .string c1, .string c2] 24)
  have HBL := Lib.hid (HB1.out.trans (hal.mono HB1.out.size))
  have HAL := Lib.hid (HA1.out.after hal (Nat.le_refl _))
  clear hal HA1 HB1
  refine (short_any 60 (by decide) (pl_three _ a1 a2 b1 b2 c1 c2)).mono ?_
  rintro e w2 ⟨rfl, hb2⟩
  have HB2 := Lib.hid (HBL.out.trans (hb2.mono HBL.out.size))
  have HA2 := Lib.hid (HAL.out.after hb2 (Nat.le_refl _))
  clear hb2 HAL HBL
  rw [H0.out]
  have m0 := HA2.out.c0 2 rfl
  have m1 := HA2.out.c1 2 rfl
  go_wp2_with fail
  clear m0 m1
  refine (check_any a1 a2 _ HZ.out.1 HZ.out.2.1).mono ?_
  rintro e w3 ⟨rfl, hb3⟩
  have HB3 := Lib.hid (HB2.out.trans (hb3.mono HB2.out.size))
  have HA3 := Lib.hid (HA2.out.after hb3 (Nat.le_refl _))
  clear hb3 HA2 HB2
  rw [H1.out]
  go_wp2
  go_ret
  exact ⟨rfl, HB3.out⟩
set_option maxRecDepth 100000 in
set_option maxHeartbeats 8000000 in
theorem field_early2 (a1 a2 b1 b2 c1 c2 : ByteArray) (w : World) (hT : Tabs w) (h0 : shortB 60 [(a1, a2), (b1, b2), (c1, c2)] = true) (hz : a1.size ≤ 1000000 ∧ a2.size ≤ 1000000 ∧ b1.size ≤ 1000000 ∧ b2.size ≤ 1000000 ∧ c1.size ≤ 1000000 ∧ c2.size ≤ 1000000) (h1 : okE a1 a2 = 0) (h2 : okE b1 b2 = 2) :
    Calls Tryz.prog 8 #[pV a1 a2, pV b1 b2, pV c1 c2] w (BoolPost w true) := by
  have HT := Lib.hid hT
  clear hT
  have H0 := Lib.hid h0
  have HZ := Lib.hid hz
  clear hz
  have H1 := Lib.hid h1
  have H2 := Lib.hid h2
  clear h0 h1 h2
  go_enter Tryz.func8, Tryz.ntmps8
  go_wp2_with fail
  obtain ⟨w0, hw0⟩ : ∃ w0, ((w.alloc (pObj a1 a2)).alloc (pObj b1 b2)).alloc (pObj c1 c2) = w0 := ⟨_, rfl⟩
  rw [hw0]
  have HB0 : Hid (Below w.heap.size w w0) := by rw [← hw0]; exact (((Below.refl _ w).alloc (Nat.le_refl _) _).alloc (by simp) _).alloc (by simp <;> omega) _
  have HA0 : Hid (Ats [(w.heap.size + 1 + 1, c1, c2), (w.heap.size + 1, b1, b2), (w.heap.size, a1, a2)] w0) := by
    rw [← hw0]
    exact Ats.three w a1 a2 b1 b2 c1 c2
  clear hw0
  refine (alive_any _ (HT.out.below HB0.out (Nat.le_refl _))).mono ?_
  rintro e w1 ⟨rfl, hb1⟩
  have HB1 := Lib.hid (HB0.out.trans (hb1.mono HB0.out.size))
  have HA1 := Lib.hid (HA0.out.after hb1 (Nat.le_refl _))
  clear hb1 HA0 HB0
  have m0 := HA1.out.c0 2 rfl
  have m1 := HA1.out.c1 2 rfl
  have m2 := HA1.out.c0 1 rfl
  have m3 := HA1.out.c1 1 rfl
  have m4 := HA1.out.c0 0 rfl
  have m5 := HA1.out.c1 0 rfl
  go_wp2_with fail
  clear m0 m1 m2 m3 m4 m5
  have hal := (Below.refl w1.heap.size w1).alloc (Nat.le_refl _) (.cells #[.string a1, .string a2, .string b1, .string b2, .string c1, .string c2] 24)
  have HBL := Lib.hid (HB1.out.trans (hal.mono HB1.out.size))
  have HAL := Lib.hid (HA1.out.after hal (Nat.le_refl _))
  clear hal HA1 HB1
  refine (short_any 60 (by decide) (pl_three _ a1 a2 b1 b2 c1 c2)).mono ?_
  rintro e w2 ⟨rfl, hb2⟩
  have HB2 := Lib.hid (HBL.out.trans (hb2.mono HBL.out.size))
  have HA2 := Lib.hid (HAL.out.after hb2 (Nat.le_refl _))
  clear hb2 HAL HBL
  rw [H0.out]
  have m0 := HA2.out.c0 2 rfl
  have m1 := HA2.out.c1 2 rfl
  go_wp2_with fail
  clear m0 m1
  refine (check_any a1 a2 _ HZ.out.1 HZ.out.2.1).mono ?_
  rintro e w3 ⟨rfl, hb3⟩
  have HB3 := Lib.hid (HB2.out.trans (hb3.mono HB2.out.size))
  have HA3 := Lib.hid (HA2.out.after hb3 (Nat.le_refl _))
  clear hb3 HA2 HB2
  rw [H1.out]
  have m0 := HA3.out.c0 1 rfl
  have m1 := HA3.out.c1 1 rfl
  go_wp2_with fail
  clear m0 m1
  refine (check_any b1 b2 _ HZ.out.2.2.1 HZ.out.2.2.2.1).mono ?_
  rintro e w4 ⟨rfl, hb4⟩
  have HB4 := Lib.hid (HB3.out.trans (hb4.mono HB3.out.size))
  have HA4 := Lib.hid (HA3.out.after hb4 (Nat.le_refl _))
  clear hb4 HA3 HB3
  rw [H2.out]
  go_wp2
  go_ret
  exact ⟨rfl, HB4.out⟩
set_option maxRecDepth 100000 in
set_option maxHeartbeats 8000000 in
theorem field_early3 (a1 a2 b1 b2 c1 c2 : ByteArray) (w : World) (hT : Tabs w) (h0 : shortB 60 [(a1, a2), (b1, b2), (c1, c2)] = true) (hz : a1.size ≤ 1000000 ∧ a2.size ≤ 1000000 ∧ b1.size ≤ 1000000 ∧ b2.size ≤ 1000000 ∧ c1.size ≤ 1000000 ∧ c2.size ≤ 1000000) (h1 : okE a1 a2 = 0) (h2 : okE b1 b2 = 0) (h3 : okE c1 c2 = 2) :
    Calls Tryz.prog 8 #[pV a1 a2, pV b1 b2, pV c1 c2] w (BoolPost w true) := by
  have HT := Lib.hid hT
  clear hT
  have H0 := Lib.hid h0
  have HZ := Lib.hid hz
  clear hz
  have H1 := Lib.hid h1
  have H2 := Lib.hid h2
  have H3 := Lib.hid h3
  clear h0 h1 h2 h3
  go_enter Tryz.func8, Tryz.ntmps8
  go_wp2_with fail
  obtain ⟨w0, hw0⟩ : ∃ w0, ((w.alloc (pObj a1 a2)).alloc (pObj b1 b2)).alloc (pObj c1 c2) = w0 := ⟨_, rfl⟩
  rw [hw0]
  have HB0 : Hid (Below w.heap.size w w0) := by rw [← hw0]; exact (((Below.refl _ w).alloc (Nat.le_refl _) _).alloc (by simp) _).alloc (by simp <;> omega) _
  have HA0 : Hid (Ats [(w.heap.size + 1 + 1, c1, c2), (w.heap.size + 1, b1, b2), (w.heap.size, a1, a2)] w0) := by
    rw [← hw0]
    exact Ats.three w a1 a2 b1 b2 c1 c2
  clear hw0
  refine (alive_any _ (HT.out.below HB0.out (Nat.le_refl _))).mono ?_
  rintro e w1 ⟨rfl, hb1⟩
  have HB1 := Lib.hid (HB0.out.trans (hb1.mono HB0.out.size))
  have HA1 := Lib.hid (HA0.out.after hb1 (Nat.le_refl _))
  clear hb1 HA0 HB0
  have m0 := HA1.out.c0 2 rfl
  have m1 := HA1.out.c1 2 rfl
  have m2 := HA1.out.c0 1 rfl
  have m3 := HA1.out.c1 1 rfl
  have m4 := HA1.out.c0 0 rfl
  have m5 := HA1.out.c1 0 rfl
  go_wp2_with fail
  clear m0 m1 m2 m3 m4 m5
  have hal := (Below.refl w1.heap.size w1).alloc (Nat.le_refl _) (.cells #[.string a1, .string a2, .string b1, .string b2, .string c1, .string c2] 24)
  have HBL := Lib.hid (HB1.out.trans (hal.mono HB1.out.size))
  have HAL := Lib.hid (HA1.out.after hal (Nat.le_refl _))
  clear hal HA1 HB1
  refine (short_any 60 (by decide) (pl_three _ a1 a2 b1 b2 c1 c2)).mono ?_
  rintro e w2 ⟨rfl, hb2⟩
  have HB2 := Lib.hid (HBL.out.trans (hb2.mono HBL.out.size))
  have HA2 := Lib.hid (HAL.out.after hb2 (Nat.le_refl _))
  clear hb2 HAL HBL
  rw [H0.out]
  have m0 := HA2.out.c0 2 rfl
  have m1 := HA2.out.c1 2 rfl
  go_wp2_with fail
  clear m0 m1
  refine (check_any a1 a2 _ HZ.out.1 HZ.out.2.1).mono ?_
  rintro e w3 ⟨rfl, hb3⟩
  have HB3 := Lib.hid (HB2.out.trans (hb3.mono HB2.out.size))
  have HA3 := Lib.hid (HA2.out.after hb3 (Nat.le_refl _))
  clear hb3 HA2 HB2
  rw [H1.out]
  have m0 := HA3.out.c0 1 rfl
  have m1 := HA3.out.c1 1 rfl
  go_wp2_with fail
  clear m0 m1
  refine (check_any b1 b2 _ HZ.out.2.2.1 HZ.out.2.2.2.1).mono ?_
  rintro e w4 ⟨rfl, hb4⟩
  have HB4 := Lib.hid (HB3.out.trans (hb4.mono HB3.out.size))
  have HA4 := Lib.hid (HA3.out.after hb4 (Nat.le_refl _))
  clear hb4 HA3 HB3
  rw [H2.out]
  have m0 := HA4.out.c0 0 rfl
  have m1 := HA4.out.c1 0 rfl
  go_wp2_with fail
  clear m0 m1
  refine (check_any c1 c2 _ HZ.out.2.2.2.2.1 HZ.out.2.2.2.2.2).mono ?_
  rintro e w5 ⟨rfl, hb5⟩
  have HB5 := Lib.hid (HB4.out.trans (hb5.mono HB4.out.size))
  have HA5 := Lib.hid (HA4.out.after hb5 (Nat.le_refl _))
  clear hb5 HA4 HB4
  rw [H3.out]
  go_wp2
  go_ret
  exact ⟨rfl, HB5.out⟩
set_option maxRecDepth 100000 in
set_option maxHeartbeats 8000000 in
theorem field_main1 (a1 a2 b1 b2 c1 c2 : ByteArray) (w : World) (hT : Tabs w) (h0 : shortB 60 [(a1, a2), (b1, b2), (c1, c2)] = true) (hz : a1.size ≤ 1000000 ∧ a2.size ≤ 1000000 ∧ b1.size ≤ 1000000 ∧ b2.size ≤ 1000000 ∧ c1.size ≤ 1000000 ∧ c2.size ≤ 1000000) (h1 : okE a1 a2 = 0) (h2 : okE b1 b2 = 0) (h3 : okE c1 c2 = 0)
    {qa qb qc qab qx qabc qbc qleft qac : Rat} {ab1 ab2 x1 x2 abc1 abc2 bc1 bc2 left1 left2 ac1 ac2 : ByteArray} (ia : Hid (IsP qa a1 a2)) (ib : Hid (IsP qb b1 b2)) (ic : Hid (IsP qc c1 c2)) (iab : Hid (IsP qab ab1 ab2)) (ix : Hid (IsP qx x1 x2)) (iabc : Hid (IsP qabc abc1 abc2)) (ibc : Hid (IsP qbc bc1 bc2)) (ileft : Hid (IsP qleft left1 left2)) (iac : Hid (IsP qac ac1 ac2)) (e1 : Hid (qa + qb = qab)) (e2 : Hid (qb + qa = qab)) (e3 : Hid (qa * qb = qx)) (e4 : Hid (qb * qa = qx)) (e5 : Hid (qab + qc = qabc)) (e6 : Hid (qb + qc = qbc)) (e7 : Hid (qa + qbc = qabc)) (e8 : Hid (qab - qb = qa)) (e9 : Hid (qa * qbc = qleft)) (e10 : Hid (qa * qc = qac)) (e11 : Hid (qx + qac = qleft)) (hr : Hid (0 < qb)) (e12 : Hid (qx / qb = qa)) :
    Calls Tryz.prog 8 #[pV a1 a2, pV b1 b2, pV c1 c2] w (BoolPost w true) := by
  have HT := Lib.hid hT
  clear hT
  have H0 := Lib.hid h0
  have HZ := Lib.hid hz
  have H1 := Lib.hid h1
  have H2 := Lib.hid h2
  have H3 := Lib.hid h3
  clear h0 hz h1 h2 h3
  go_enter Tryz.func8, Tryz.ntmps8
  go_wp2_with fail
  obtain ⟨w0, hw0⟩ : ∃ w0, ((w.alloc (pObj a1 a2)).alloc (pObj b1 b2)).alloc (pObj c1 c2) = w0 := ⟨_, rfl⟩
  rw [hw0]
  have HB0 : Hid (Below w.heap.size w w0) := by rw [← hw0]; exact (((Below.refl _ w).alloc (Nat.le_refl _) _).alloc (by simp) _).alloc (by simp <;> omega) _
  have HA0 : Hid (Ats [(w.heap.size + 1 + 1, c1, c2), (w.heap.size + 1, b1, b2), (w.heap.size, a1, a2)] w0) := by
    rw [← hw0]
    exact Ats.three w a1 a2 b1 b2 c1 c2
  clear hw0
  refine (alive_any _ (HT.out.below HB0.out (Nat.le_refl _))).mono ?_
  rintro e w1 ⟨rfl, hb1⟩
  have HB1 := Lib.hid (HB0.out.trans (hb1.mono HB0.out.size))
  have HA1 := Lib.hid (HA0.out.after hb1 (Nat.le_refl _))
  clear hb1 HA0 HB0
  have m0 := HA1.out.c0 2 rfl
  have m1 := HA1.out.c1 2 rfl
  have m2 := HA1.out.c0 1 rfl
  have m3 := HA1.out.c1 1 rfl
  have m4 := HA1.out.c0 0 rfl
  have m5 := HA1.out.c1 0 rfl
  go_wp2_with fail
  clear m0 m1 m2 m3 m4 m5
  have hal := (Below.refl w1.heap.size w1).alloc (Nat.le_refl _) (.cells #[.string a1, .string a2, .string b1, .string b2, .string c1, .string c2] 24)
  have HBL := Lib.hid (HB1.out.trans (hal.mono HB1.out.size))
  have HAL := Lib.hid (HA1.out.after hal (Nat.le_refl _))
  clear hal HA1 HB1
  refine (short_any 60 (by decide) (pl_three _ a1 a2 b1 b2 c1 c2)).mono ?_
  rintro e w2 ⟨rfl, hb2⟩
  have HB2 := Lib.hid (HBL.out.trans (hb2.mono HBL.out.size))
  have HA2 := Lib.hid (HAL.out.after hb2 (Nat.le_refl _))
  clear hb2 HAL HBL
  rw [H0.out]
  have m0 := HA2.out.c0 2 rfl
  have m1 := HA2.out.c1 2 rfl
  go_wp2_with fail
  clear m0 m1
  refine (check_any a1 a2 _ HZ.out.1 HZ.out.2.1).mono ?_
  rintro e w3 ⟨rfl, hb3⟩
  have HB3 := Lib.hid (HB2.out.trans (hb3.mono HB2.out.size))
  have HA3 := Lib.hid (HA2.out.after hb3 (Nat.le_refl _))
  clear hb3 HA2 HB2
  rw [H1.out]
  have m0 := HA3.out.c0 1 rfl
  have m1 := HA3.out.c1 1 rfl
  go_wp2_with fail
  clear m0 m1
  refine (check_any b1 b2 _ HZ.out.2.2.1 HZ.out.2.2.2.1).mono ?_
  rintro e w4 ⟨rfl, hb4⟩
  have HB4 := Lib.hid (HB3.out.trans (hb4.mono HB3.out.size))
  have HA4 := Lib.hid (HA3.out.after hb4 (Nat.le_refl _))
  clear hb4 HA3 HB3
  rw [H2.out]
  have m0 := HA4.out.c0 0 rfl
  have m1 := HA4.out.c1 0 rfl
  go_wp2_with fail
  clear m0 m1
  refine (check_any c1 c2 _ HZ.out.2.2.2.2.1 HZ.out.2.2.2.2.2).mono ?_
  rintro e w5 ⟨rfl, hb5⟩
  have HB5 := Lib.hid (HB4.out.trans (hb5.mono HB4.out.size))
  have HA5 := Lib.hid (HA4.out.after hb5 (Nat.le_refl _))
  clear hb5 HA4 HB4
  rw [H3.out]
  have m0 := HA5.out.c0 2 rfl
  have m1 := HA5.out.c1 2 rfl
  have m2 := HA5.out.c0 1 rfl
  have m3 := HA5.out.c1 1 rfl
  go_wp2_with fail
  clear m0 m1 m2 m3
  refine (add_to ia.out ib.out iab.out e1.out _ (HT.out.below HB5.out (Nat.le_refl _))).mono ?_
  rintro e w6 ⟨rfl, hb6⟩
  have HB6 : Hid (Below w.heap.size w (w6.alloc (pObj ab1 ab2))) := (HB5.out.trans (hb6.mono HB5.out.size)).alloc (Nat.le_trans HB5.out.size hb6.size) _
  have HA6 := Lib.hid ((HA5.out.after hb6 (Nat.le_refl _)).push ab1 ab2)
  clear hb6 HA5 HB5
  have m0 := HA6.out.c0 2 rfl
  have m1 := HA6.out.c1 2 rfl
  have m2 := HA6.out.c0 3 rfl
  have m3 := HA6.out.c1 3 rfl
  go_wp2_with fail
  clear m0 m1 m2 m3
  refine (add_to ib.out ia.out iab.out e2.out _ (HT.out.below HB6.out (Nat.le_refl _))).mono ?_
  rintro e w7 ⟨rfl, hb7⟩
  have HB7 : Hid (Below w.heap.size w (w7.alloc (pObj ab1 ab2))) := (HB6.out.trans (hb7.mono HB6.out.size)).alloc (Nat.le_trans HB6.out.size hb7.size) _
  have HA7 := Lib.hid ((HA6.out.after hb7 (Nat.le_refl _)).push ab1 ab2)
  clear hb7 HA6 HB6
  have m0 := HA7.out.c0 4 rfl
  have m1 := HA7.out.c1 4 rfl
  have m2 := HA7.out.c0 3 rfl
  have m3 := HA7.out.c1 3 rfl
  go_wp2_with fail
  clear m0 m1 m2 m3
  refine (mul_to ia.out ib.out ix.out e3.out _ (HT.out.below HB7.out (Nat.le_refl _))).mono ?_
  rintro e w8 ⟨rfl, hb8⟩
  have HB8 : Hid (Below w.heap.size w (w8.alloc (pObj x1 x2))) := (HB7.out.trans (hb8.mono HB7.out.size)).alloc (Nat.le_trans HB7.out.size hb8.size) _
  have HA8 := Lib.hid ((HA7.out.after hb8 (Nat.le_refl _)).push x1 x2)
  clear hb8 HA7 HB7
  have m0 := HA8.out.c0 4 rfl
  have m1 := HA8.out.c1 4 rfl
  have m2 := HA8.out.c0 5 rfl
  have m3 := HA8.out.c1 5 rfl
  go_wp2_with fail
  clear m0 m1 m2 m3
  refine (mul_to ib.out ia.out ix.out e4.out _ (HT.out.below HB8.out (Nat.le_refl _))).mono ?_
  rintro e w9 ⟨rfl, hb9⟩
  have HB9 : Hid (Below w.heap.size w (w9.alloc (pObj x1 x2))) := (HB8.out.trans (hb9.mono HB8.out.size)).alloc (Nat.le_trans HB8.out.size hb9.size) _
  have HA9 := Lib.hid ((HA8.out.after hb9 (Nat.le_refl _)).push x1 x2)
  clear hb9 HA8 HB8
  have m0 := HA9.out.c0 3 rfl
  have m1 := HA9.out.c1 3 rfl
  have m2 := HA9.out.c0 2 rfl
  have m3 := HA9.out.c1 2 rfl
  have m4 := HA9.out.c0 1 rfl
  have m5 := HA9.out.c1 1 rfl
  have m6 := HA9.out.c0 0 rfl
  have m7 := HA9.out.c1 0 rfl
  have m8 := HA9.out.c0 4 rfl
  have m9 := HA9.out.c1 4 rfl
  go_wp2_with fail
  clear m0 m1 m2 m3 m4 m5 m6 m7 m8 m9
  refine (add_to iab.out ic.out iabc.out e5.out _ (HT.out.below HB9.out (Nat.le_refl _))).mono ?_
  rintro e w10 ⟨rfl, hb10⟩
  have HB10 : Hid (Below w.heap.size w (w10.alloc (pObj abc1 abc2))) := (HB9.out.trans (hb10.mono HB9.out.size)).alloc (Nat.le_trans HB9.out.size hb10.size) _
  have HA10 := Lib.hid ((HA9.out.after hb10 (Nat.le_refl _)).push abc1 abc2)
  clear hb10 HA9 HB9
  have m0 := HA10.out.c0 6 rfl
  have m1 := HA10.out.c1 6 rfl
  have m2 := HA10.out.c0 5 rfl
  have m3 := HA10.out.c1 5 rfl
  go_wp2_with fail
  clear m0 m1 m2 m3
  refine (add_to ib.out ic.out ibc.out e6.out _ (HT.out.below HB10.out (Nat.le_refl _))).mono ?_
  rintro e w11 ⟨rfl, hb11⟩
  have HB11 : Hid (Below w.heap.size w (w11.alloc (pObj bc1 bc2))) := (HB10.out.trans (hb11.mono HB10.out.size)).alloc (Nat.le_trans HB10.out.size hb11.size) _
  have HA11 := Lib.hid ((HA10.out.after hb11 (Nat.le_refl _)).push bc1 bc2)
  clear hb11 HA10 HB10
  have m0 := HA11.out.c0 8 rfl
  have m1 := HA11.out.c1 8 rfl
  have m2 := HA11.out.c0 0 rfl
  have m3 := HA11.out.c1 0 rfl
  go_wp2_with fail
  clear m0 m1 m2 m3
  refine (add_to ia.out ibc.out iabc.out e7.out _ (HT.out.below HB11.out (Nat.le_refl _))).mono ?_
  rintro e w12 ⟨rfl, hb12⟩
  have HB12 : Hid (Below w.heap.size w (w12.alloc (pObj abc1 abc2))) := (HB11.out.trans (hb12.mono HB11.out.size)).alloc (Nat.le_trans HB11.out.size hb12.size) _
  have HA12 := Lib.hid ((HA11.out.after hb12 (Nat.le_refl _)).push abc1 abc2)
  clear hb12 HA11 HB11
  have m0 := HA12.out.c0 6 rfl
  have m1 := HA12.out.c1 6 rfl
  have m2 := HA12.out.c0 8 rfl
  have m3 := HA12.out.c1 8 rfl
  go_wp2_with fail
  clear m0 m1 m2 m3
  refine (sub_to iab.out ib.out ia.out e8.out _ (HT.out.below HB12.out (Nat.le_refl _))).mono ?_
  rintro e w13 ⟨rfl, hb13⟩
  have HB13 : Hid (Below w.heap.size w (w13.alloc (pObj a1 a2))) := (HB12.out.trans (hb13.mono HB12.out.size)).alloc (Nat.le_trans HB12.out.size hb13.size) _
  have HA13 := Lib.hid ((HA12.out.after hb13 (Nat.le_refl _)).push a1 a2)
  clear hb13 HA12 HB12
  have m0 := HA13.out.c0 3 rfl
  have m1 := HA13.out.c1 3 rfl
  have m2 := HA13.out.c0 1 rfl
  have m3 := HA13.out.c1 1 rfl
  have m4 := HA13.out.c0 0 rfl
  have m5 := HA13.out.c1 0 rfl
  have m6 := HA13.out.c0 10 rfl
  have m7 := HA13.out.c1 10 rfl
  have m8 := HA13.out.c0 2 rfl
  have m9 := HA13.out.c1 2 rfl
  go_wp2_with fail
  clear m0 m1 m2 m3 m4 m5 m6 m7 m8 m9
  refine (mul_to ia.out ibc.out ileft.out e9.out _ (HT.out.below HB13.out (Nat.le_refl _))).mono ?_
  rintro e w14 ⟨rfl, hb14⟩
  have HB14 : Hid (Below w.heap.size w (w14.alloc (pObj left1 left2))) := (HB13.out.trans (hb14.mono HB13.out.size)).alloc (Nat.le_trans HB13.out.size hb14.size) _
  have HA14 := Lib.hid ((HA13.out.after hb14 (Nat.le_refl _)).push left1 left2)
  clear hb14 HA13 HB13
  have m0 := HA14.out.c0 11 rfl
  have m1 := HA14.out.c1 11 rfl
  have m2 := HA14.out.c0 9 rfl
  have m3 := HA14.out.c1 9 rfl
  go_wp2_with fail
  clear m0 m1 m2 m3
  refine (mul_to ia.out ic.out iac.out e10.out _ (HT.out.below HB14.out (Nat.le_refl _))).mono ?_
  rintro e w15 ⟨rfl, hb15⟩
  have HB15 : Hid (Below w.heap.size w (w15.alloc (pObj ac1 ac2))) := (HB14.out.trans (hb15.mono HB14.out.size)).alloc (Nat.le_trans HB14.out.size hb15.size) _
  have HA15 := Lib.hid ((HA14.out.after hb15 (Nat.le_refl _)).push ac1 ac2)
  clear hb15 HA14 HB14
  have m0 := HA15.out.c0 7 rfl
  have m1 := HA15.out.c1 7 rfl
  have m2 := HA15.out.c0 0 rfl
  have m3 := HA15.out.c1 0 rfl
  go_wp2_with fail
  clear m0 m1 m2 m3
  refine (add_to ix.out iac.out ileft.out e11.out _ (HT.out.below HB15.out (Nat.le_refl _))).mono ?_
  rintro e w16 ⟨rfl, hb16⟩
  have HB16 : Hid (Below w.heap.size w (w16.alloc (pObj left1 left2))) := (HB15.out.trans (hb16.mono HB15.out.size)).alloc (Nat.le_trans HB15.out.size hb16.size) _
  have HA16 := Lib.hid ((HA15.out.after hb16 (Nat.le_refl _)).push left1 left2)
  clear hb16 HA15 HB15
  have m0 := HA16.out.c0 2 rfl
  have m1 := HA16.out.c1 2 rfl
  have m2 := HA16.out.c0 0 rfl
  have m3 := HA16.out.c1 0 rfl
  have m4 := HA16.out.c0 8 rfl
  have m5 := HA16.out.c1 8 rfl
  have m6 := HA16.out.c0 12 rfl
  have m7 := HA16.out.c1 12 rfl
  go_wp2_with fail
  clear m0 m1 m2 m3 m4 m5 m6 m7
  refine (div_to ix.out ib.out ia.out hr.out e12.out _ (HT.out.below HB16.out (Nat.le_refl _))).mono ?_
  rintro e w17 ⟨rfl, hb17⟩
  have HB17 : Hid (Below w.heap.size w (w17.alloc (pObj a1 a2))) := (HB16.out.trans (hb17.mono HB16.out.size)).alloc (Nat.le_trans HB16.out.size hb17.size) _
  have HA17 := Lib.hid ((HA16.out.after hb17 (Nat.le_refl _)).push a1 a2)
  clear hb17 HA16 HB16
  have m0 := HA17.out.c0 0 rfl
  have m1 := HA17.out.c1 0 rfl
  have m2 := HA17.out.c0 14 rfl
  have m3 := HA17.out.c1 14 rfl
  go_wp2
  go_ret
  exact ⟨rfl, HB17.out⟩
set_option maxRecDepth 100000 in
set_option maxHeartbeats 8000000 in
theorem field_main0 (a1 a2 b1 b2 c1 c2 : ByteArray) (w : World) (hT : Tabs w) (h0 : shortB 60 [(a1, a2), (b1, b2), (c1, c2)] = true) (hz : a1.size ≤ 1000000 ∧ a2.size ≤ 1000000 ∧ b1.size ≤ 1000000 ∧ b2.size ≤ 1000000 ∧ c1.size ≤ 1000000 ∧ c2.size ≤ 1000000) (h1 : okE a1 a2 = 0) (h2 : okE b1 b2 = 0) (h3 : okE c1 c2 = 0)
    {qa qb qc qab qx qabc qbc qleft qac : Rat} {ab1 ab2 x1 x2 abc1 abc2 bc1 bc2 left1 left2 ac1 ac2 : ByteArray} (ia : Hid (IsP qa a1 a2)) (ib : Hid (IsP qb b1 b2)) (ic : Hid (IsP qc c1 c2)) (iab : Hid (IsP qab ab1 ab2)) (ix : Hid (IsP qx x1 x2)) (iabc : Hid (IsP qabc abc1 abc2)) (ibc : Hid (IsP qbc bc1 bc2)) (ileft : Hid (IsP qleft left1 left2)) (iac : Hid (IsP qac ac1 ac2)) (e1 : Hid (qa + qb = qab)) (e2 : Hid (qb + qa = qab)) (e3 : Hid (qa * qb = qx)) (e4 : Hid (qb * qa = qx)) (e5 : Hid (qab + qc = qabc)) (e6 : Hid (qb + qc = qbc)) (e7 : Hid (qa + qbc = qabc)) (e8 : Hid (qab - qb = qa)) (e9 : Hid (qa * qbc = qleft)) (e10 : Hid (qa * qc = qac)) (e11 : Hid (qx + qac = qleft)) (hr : Hid (qb = 0)) (e12 : b1 = ⟨#[48]⟩) :
    Calls Tryz.prog 8 #[pV a1 a2, pV b1 b2, pV c1 c2] w (BoolPost w true) := by
  have HT := Lib.hid hT
  clear hT
  have H0 := Lib.hid h0
  have HZ := Lib.hid hz
  have H1 := Lib.hid h1
  have H2 := Lib.hid h2
  have H3 := Lib.hid h3
  clear h0 hz h1 h2 h3
  have E12 := Lib.hid e12
  clear e12
  go_enter Tryz.func8, Tryz.ntmps8
  go_wp2_with fail
  obtain ⟨w0, hw0⟩ : ∃ w0, ((w.alloc (pObj a1 a2)).alloc (pObj b1 b2)).alloc (pObj c1 c2) = w0 := ⟨_, rfl⟩
  rw [hw0]
  have HB0 : Hid (Below w.heap.size w w0) := by rw [← hw0]; exact (((Below.refl _ w).alloc (Nat.le_refl _) _).alloc (by simp) _).alloc (by simp <;> omega) _
  have HA0 : Hid (Ats [(w.heap.size + 1 + 1, c1, c2), (w.heap.size + 1, b1, b2), (w.heap.size, a1, a2)] w0) := by
    rw [← hw0]
    exact Ats.three w a1 a2 b1 b2 c1 c2
  clear hw0
  refine (alive_any _ (HT.out.below HB0.out (Nat.le_refl _))).mono ?_
  rintro e w1 ⟨rfl, hb1⟩
  have HB1 := Lib.hid (HB0.out.trans (hb1.mono HB0.out.size))
  have HA1 := Lib.hid (HA0.out.after hb1 (Nat.le_refl _))
  clear hb1 HA0 HB0
  have m0 := HA1.out.c0 2 rfl
  have m1 := HA1.out.c1 2 rfl
  have m2 := HA1.out.c0 1 rfl
  have m3 := HA1.out.c1 1 rfl
  have m4 := HA1.out.c0 0 rfl
  have m5 := HA1.out.c1 0 rfl
  go_wp2_with fail
  clear m0 m1 m2 m3 m4 m5
  have hal := (Below.refl w1.heap.size w1).alloc (Nat.le_refl _) (.cells #[.string a1, .string a2, .string b1, .string b2, .string c1, .string c2] 24)
  have HBL := Lib.hid (HB1.out.trans (hal.mono HB1.out.size))
  have HAL := Lib.hid (HA1.out.after hal (Nat.le_refl _))
  clear hal HA1 HB1
  refine (short_any 60 (by decide) (pl_three _ a1 a2 b1 b2 c1 c2)).mono ?_
  rintro e w2 ⟨rfl, hb2⟩
  have HB2 := Lib.hid (HBL.out.trans (hb2.mono HBL.out.size))
  have HA2 := Lib.hid (HAL.out.after hb2 (Nat.le_refl _))
  clear hb2 HAL HBL
  rw [H0.out]
  have m0 := HA2.out.c0 2 rfl
  have m1 := HA2.out.c1 2 rfl
  go_wp2_with fail
  clear m0 m1
  refine (check_any a1 a2 _ HZ.out.1 HZ.out.2.1).mono ?_
  rintro e w3 ⟨rfl, hb3⟩
  have HB3 := Lib.hid (HB2.out.trans (hb3.mono HB2.out.size))
  have HA3 := Lib.hid (HA2.out.after hb3 (Nat.le_refl _))
  clear hb3 HA2 HB2
  rw [H1.out]
  have m0 := HA3.out.c0 1 rfl
  have m1 := HA3.out.c1 1 rfl
  go_wp2_with fail
  clear m0 m1
  refine (check_any b1 b2 _ HZ.out.2.2.1 HZ.out.2.2.2.1).mono ?_
  rintro e w4 ⟨rfl, hb4⟩
  have HB4 := Lib.hid (HB3.out.trans (hb4.mono HB3.out.size))
  have HA4 := Lib.hid (HA3.out.after hb4 (Nat.le_refl _))
  clear hb4 HA3 HB3
  rw [H2.out]
  have m0 := HA4.out.c0 0 rfl
  have m1 := HA4.out.c1 0 rfl
  go_wp2_with fail
  clear m0 m1
  refine (check_any c1 c2 _ HZ.out.2.2.2.2.1 HZ.out.2.2.2.2.2).mono ?_
  rintro e w5 ⟨rfl, hb5⟩
  have HB5 := Lib.hid (HB4.out.trans (hb5.mono HB4.out.size))
  have HA5 := Lib.hid (HA4.out.after hb5 (Nat.le_refl _))
  clear hb5 HA4 HB4
  rw [H3.out]
  have m0 := HA5.out.c0 2 rfl
  have m1 := HA5.out.c1 2 rfl
  have m2 := HA5.out.c0 1 rfl
  have m3 := HA5.out.c1 1 rfl
  go_wp2_with fail
  clear m0 m1 m2 m3
  refine (add_to ia.out ib.out iab.out e1.out _ (HT.out.below HB5.out (Nat.le_refl _))).mono ?_
  rintro e w6 ⟨rfl, hb6⟩
  have HB6 : Hid (Below w.heap.size w (w6.alloc (pObj ab1 ab2))) := (HB5.out.trans (hb6.mono HB5.out.size)).alloc (Nat.le_trans HB5.out.size hb6.size) _
  have HA6 := Lib.hid ((HA5.out.after hb6 (Nat.le_refl _)).push ab1 ab2)
  clear hb6 HA5 HB5
  have m0 := HA6.out.c0 2 rfl
  have m1 := HA6.out.c1 2 rfl
  have m2 := HA6.out.c0 3 rfl
  have m3 := HA6.out.c1 3 rfl
  go_wp2_with fail
  clear m0 m1 m2 m3
  refine (add_to ib.out ia.out iab.out e2.out _ (HT.out.below HB6.out (Nat.le_refl _))).mono ?_
  rintro e w7 ⟨rfl, hb7⟩
  have HB7 : Hid (Below w.heap.size w (w7.alloc (pObj ab1 ab2))) := (HB6.out.trans (hb7.mono HB6.out.size)).alloc (Nat.le_trans HB6.out.size hb7.size) _
  have HA7 := Lib.hid ((HA6.out.after hb7 (Nat.le_refl _)).push ab1 ab2)
  clear hb7 HA6 HB6
  have m0 := HA7.out.c0 4 rfl
  have m1 := HA7.out.c1 4 rfl
  have m2 := HA7.out.c0 3 rfl
  have m3 := HA7.out.c1 3 rfl
  go_wp2_with fail
  clear m0 m1 m2 m3
  refine (mul_to ia.out ib.out ix.out e3.out _ (HT.out.below HB7.out (Nat.le_refl _))).mono ?_
  rintro e w8 ⟨rfl, hb8⟩
  have HB8 : Hid (Below w.heap.size w (w8.alloc (pObj x1 x2))) := (HB7.out.trans (hb8.mono HB7.out.size)).alloc (Nat.le_trans HB7.out.size hb8.size) _
  have HA8 := Lib.hid ((HA7.out.after hb8 (Nat.le_refl _)).push x1 x2)
  clear hb8 HA7 HB7
  have m0 := HA8.out.c0 4 rfl
  have m1 := HA8.out.c1 4 rfl
  have m2 := HA8.out.c0 5 rfl
  have m3 := HA8.out.c1 5 rfl
  go_wp2_with fail
  clear m0 m1 m2 m3
  refine (mul_to ib.out ia.out ix.out e4.out _ (HT.out.below HB8.out (Nat.le_refl _))).mono ?_
  rintro e w9 ⟨rfl, hb9⟩
  have HB9 : Hid (Below w.heap.size w (w9.alloc (pObj x1 x2))) := (HB8.out.trans (hb9.mono HB8.out.size)).alloc (Nat.le_trans HB8.out.size hb9.size) _
  have HA9 := Lib.hid ((HA8.out.after hb9 (Nat.le_refl _)).push x1 x2)
  clear hb9 HA8 HB8
  have m0 := HA9.out.c0 3 rfl
  have m1 := HA9.out.c1 3 rfl
  have m2 := HA9.out.c0 2 rfl
  have m3 := HA9.out.c1 2 rfl
  have m4 := HA9.out.c0 1 rfl
  have m5 := HA9.out.c1 1 rfl
  have m6 := HA9.out.c0 0 rfl
  have m7 := HA9.out.c1 0 rfl
  have m8 := HA9.out.c0 4 rfl
  have m9 := HA9.out.c1 4 rfl
  go_wp2_with fail
  clear m0 m1 m2 m3 m4 m5 m6 m7 m8 m9
  refine (add_to iab.out ic.out iabc.out e5.out _ (HT.out.below HB9.out (Nat.le_refl _))).mono ?_
  rintro e w10 ⟨rfl, hb10⟩
  have HB10 : Hid (Below w.heap.size w (w10.alloc (pObj abc1 abc2))) := (HB9.out.trans (hb10.mono HB9.out.size)).alloc (Nat.le_trans HB9.out.size hb10.size) _
  have HA10 := Lib.hid ((HA9.out.after hb10 (Nat.le_refl _)).push abc1 abc2)
  clear hb10 HA9 HB9
  have m0 := HA10.out.c0 6 rfl
  have m1 := HA10.out.c1 6 rfl
  have m2 := HA10.out.c0 5 rfl
  have m3 := HA10.out.c1 5 rfl
  go_wp2_with fail
  clear m0 m1 m2 m3
  refine (add_to ib.out ic.out ibc.out e6.out _ (HT.out.below HB10.out (Nat.le_refl _))).mono ?_
  rintro e w11 ⟨rfl, hb11⟩
  have HB11 : Hid (Below w.heap.size w (w11.alloc (pObj bc1 bc2))) := (HB10.out.trans (hb11.mono HB10.out.size)).alloc (Nat.le_trans HB10.out.size hb11.size) _
  have HA11 := Lib.hid ((HA10.out.after hb11 (Nat.le_refl _)).push bc1 bc2)
  clear hb11 HA10 HB10
  have m0 := HA11.out.c0 8 rfl
  have m1 := HA11.out.c1 8 rfl
  have m2 := HA11.out.c0 0 rfl
  have m3 := HA11.out.c1 0 rfl
  go_wp2_with fail
  clear m0 m1 m2 m3
  refine (add_to ia.out ibc.out iabc.out e7.out _ (HT.out.below HB11.out (Nat.le_refl _))).mono ?_
  rintro e w12 ⟨rfl, hb12⟩
  have HB12 : Hid (Below w.heap.size w (w12.alloc (pObj abc1 abc2))) := (HB11.out.trans (hb12.mono HB11.out.size)).alloc (Nat.le_trans HB11.out.size hb12.size) _
  have HA12 := Lib.hid ((HA11.out.after hb12 (Nat.le_refl _)).push abc1 abc2)
  clear hb12 HA11 HB11
  have m0 := HA12.out.c0 6 rfl
  have m1 := HA12.out.c1 6 rfl
  have m2 := HA12.out.c0 8 rfl
  have m3 := HA12.out.c1 8 rfl
  go_wp2_with fail
  clear m0 m1 m2 m3
  refine (sub_to iab.out ib.out ia.out e8.out _ (HT.out.below HB12.out (Nat.le_refl _))).mono ?_
  rintro e w13 ⟨rfl, hb13⟩
  have HB13 : Hid (Below w.heap.size w (w13.alloc (pObj a1 a2))) := (HB12.out.trans (hb13.mono HB12.out.size)).alloc (Nat.le_trans HB12.out.size hb13.size) _
  have HA13 := Lib.hid ((HA12.out.after hb13 (Nat.le_refl _)).push a1 a2)
  clear hb13 HA12 HB12
  have m0 := HA13.out.c0 3 rfl
  have m1 := HA13.out.c1 3 rfl
  have m2 := HA13.out.c0 1 rfl
  have m3 := HA13.out.c1 1 rfl
  have m4 := HA13.out.c0 0 rfl
  have m5 := HA13.out.c1 0 rfl
  have m6 := HA13.out.c0 10 rfl
  have m7 := HA13.out.c1 10 rfl
  have m8 := HA13.out.c0 2 rfl
  have m9 := HA13.out.c1 2 rfl
  go_wp2_with fail
  clear m0 m1 m2 m3 m4 m5 m6 m7 m8 m9
  refine (mul_to ia.out ibc.out ileft.out e9.out _ (HT.out.below HB13.out (Nat.le_refl _))).mono ?_
  rintro e w14 ⟨rfl, hb14⟩
  have HB14 : Hid (Below w.heap.size w (w14.alloc (pObj left1 left2))) := (HB13.out.trans (hb14.mono HB13.out.size)).alloc (Nat.le_trans HB13.out.size hb14.size) _
  have HA14 := Lib.hid ((HA13.out.after hb14 (Nat.le_refl _)).push left1 left2)
  clear hb14 HA13 HB13
  have m0 := HA14.out.c0 11 rfl
  have m1 := HA14.out.c1 11 rfl
  have m2 := HA14.out.c0 9 rfl
  have m3 := HA14.out.c1 9 rfl
  go_wp2_with fail
  clear m0 m1 m2 m3
  refine (mul_to ia.out ic.out iac.out e10.out _ (HT.out.below HB14.out (Nat.le_refl _))).mono ?_
  rintro e w15 ⟨rfl, hb15⟩
  have HB15 : Hid (Below w.heap.size w (w15.alloc (pObj ac1 ac2))) := (HB14.out.trans (hb15.mono HB14.out.size)).alloc (Nat.le_trans HB14.out.size hb15.size) _
  have HA15 := Lib.hid ((HA14.out.after hb15 (Nat.le_refl _)).push ac1 ac2)
  clear hb15 HA14 HB14
  have m0 := HA15.out.c0 7 rfl
  have m1 := HA15.out.c1 7 rfl
  have m2 := HA15.out.c0 0 rfl
  have m3 := HA15.out.c1 0 rfl
  go_wp2_with fail
  clear m0 m1 m2 m3
  refine (add_to ix.out iac.out ileft.out e11.out _ (HT.out.below HB15.out (Nat.le_refl _))).mono ?_
  rintro e w16 ⟨rfl, hb16⟩
  have HB16 : Hid (Below w.heap.size w (w16.alloc (pObj left1 left2))) := (HB15.out.trans (hb16.mono HB15.out.size)).alloc (Nat.le_trans HB15.out.size hb16.size) _
  have HA16 := Lib.hid ((HA15.out.after hb16 (Nat.le_refl _)).push left1 left2)
  clear hb16 HA15 HB15
  have m0 := HA16.out.c0 2 rfl
  have m1 := HA16.out.c1 2 rfl
  have m2 := HA16.out.c0 0 rfl
  have m3 := HA16.out.c1 0 rfl
  have m4 := HA16.out.c0 8 rfl
  have m5 := HA16.out.c1 8 rfl
  have m6 := HA16.out.c0 12 rfl
  have m7 := HA16.out.c1 12 rfl
  go_wp2_with fail
  clear m0 m1 m2 m3 m4 m5 m6 m7
  refine (div_none ix.out ib.out hr.out _ (HT.out.below HB16.out (Nat.le_refl _))).mono ?_
  rintro e w17 ⟨rfl, hb17⟩
  have HB17 : Hid (Below w.heap.size w (w17.alloc (pObj ⟨#[]⟩ ⟨#[]⟩))) := (HB16.out.trans (hb17.mono HB16.out.size)).alloc (Nat.le_trans HB16.out.size hb17.size) _
  have HA17 := Lib.hid ((HA16.out.after hb17 (Nat.le_refl _)).push ⟨#[]⟩ ⟨#[]⟩)
  clear hb17 HA16 HB16
  have HE : Hid (b1 = ⟨#[48]⟩) := E12
  have m0 := HA17.out.c0 13 rfl
  have m1 := HA17.out.c1 13 rfl
  rw [HE.out] at m0
  go_wp2
  go_ret
  exact ⟨rfl, HB17.out⟩
end Go.Proofs.YthbpadjhlkdpeaaGreatDoor
