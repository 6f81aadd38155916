/- The parts LawPairs of a proof, put together by program (merge.py). -/
import Derived.Test.YthbpadjhlkdpeaaGreatDoorG28
/- WeightProducts' and WeightSums' walks. -/
namespace Go.Proofs.YthbpadjhlkdpeaaGreatDoor
open Go.RowKit Go.Shelf
attribute [local go_sem ↓] Go.wp_at_zero Go.wp_at_succ
theorem Ats.pair (w : World) (s t u v : ByteArray) : Ats [(w.heap.size + 1, u, v), (w.heap.size, s, t)] ((w.alloc (pObj s t)).alloc (pObj u v)) := by
  have h := ((Ats.nil w).push s t).push u v
  rw [World.alloc_size] at h
  exact h

set_option maxRecDepth 100000 in
set_option maxHeartbeats 8000000 in
theorem products_law (a1 a2 b1 b2 : ByteArray) (w : World) (hT : Tabs w) : Calls Tryz.prog 3 #[pV a1 a2, pV b1 b2] w (BoolPost w true) := by
  have HT := Lib.hid hT
  clear hT
  cases h0 : shortB 610 [(a1, a2), (b1, b2)]
  · have H0 := Lib.hid h0
    clear h0
    go_enter Tryz.func3, Tryz.ntmps3
    go_wp2_with fail
    obtain ⟨w0, hw0⟩ : ∃ w0, (w.alloc (pObj a1 a2)).alloc (pObj b1 b2) = w0 := ⟨_, rfl⟩
    rw [hw0]
    have HB0 : Hid (Below w.heap.size w w0) := by rw [← hw0]; exact ((Below.refl _ w).alloc (Nat.le_refl _) _).alloc (by simp) _
    have HA0 : Hid (Ats [(w.heap.size + 1, b1, b2), (w.heap.size, a1, a2)] w0) := by
      rw [← hw0]
      exact Ats.pair w a1 a2 b1 b2
    have hsz0 : w0.heap.size = w.heap.size + 1 + 1 := by rw [← hw0]; simp
    clear hw0
    have hpl := pl_two w0 a1 a2 b1 b2
    rw [hsz0] at hpl
    have hal := (Below.refl w0.heap.size w0).alloc (Nat.le_refl _) (.cells #[.string a1, .string a2, .string b1, .string b2] 24)
    have HBL := Lib.hid (HB0.out.trans (hal.mono HB0.out.size))
    have HAL := Lib.hid (HA0.out.after hal (Nat.le_refl _))
    clear hal HA0 HB0
    clear hsz0
    refine (short_any 610 (by decide) hpl).mono ?_
    clear hpl
    rintro e w2 ⟨rfl, hb2⟩
    have HB2 := Lib.hid (HBL.out.trans (hb2.mono HBL.out.size))
    have HA2 := Lib.hid (HAL.out.after hb2 (Nat.le_refl _))
    clear hb2 HAL HBL
    rw [H0.out]
    go_wp2_with fail
    refine (alive_any _ (HT.out.below HB2.out (Nat.le_refl _))).mono ?_
    rintro e w3 ⟨rfl, hb3⟩
    have HB3 := Lib.hid (HB2.out.trans (hb3.mono HB2.out.size))
    clear hb3
    go_wp2
    go_ret
    exact ⟨rfl, HB3.out⟩
  · have hs := shortB_iff.1 h0
    have hz1 : a1.size ≤ 1000000 ∧ a2.size ≤ 1000000 := by have := hs (a1, a2) (by simp); dsimp only at this; omega
    have hz2 : b1.size ≤ 1000000 ∧ b2.size ≤ 1000000 := by have := hs (b1, b2) (by simp); dsimp only at this; omega
    have HZ1 := Lib.hid hz1
    have HZ2 := Lib.hid hz2
    have H0 := Lib.hid h0
    clear h0 hs hz1 hz2
    go_enter Tryz.func3, Tryz.ntmps3
    go_wp2_with fail
    obtain ⟨w0, hw0⟩ : ∃ w0, (w.alloc (pObj a1 a2)).alloc (pObj b1 b2) = w0 := ⟨_, rfl⟩
    rw [hw0]
    have HB0 : Hid (Below w.heap.size w w0) := by rw [← hw0]; exact ((Below.refl _ w).alloc (Nat.le_refl _) _).alloc (by simp) _
    have HA0 : Hid (Ats [(w.heap.size + 1, b1, b2), (w.heap.size, a1, a2)] w0) := by
      rw [← hw0]
      exact Ats.pair w a1 a2 b1 b2
    have hsz0 : w0.heap.size = w.heap.size + 1 + 1 := by rw [← hw0]; simp
    clear hw0
    have hpl := pl_two w0 a1 a2 b1 b2
    rw [hsz0] at hpl
    have hal := (Below.refl w0.heap.size w0).alloc (Nat.le_refl _) (.cells #[.string a1, .string a2, .string b1, .string b2] 24)
    have HBL := Lib.hid (HB0.out.trans (hal.mono HB0.out.size))
    have HAL := Lib.hid (HA0.out.after hal (Nat.le_refl _))
    clear hal HA0 HB0
    clear hsz0
    refine (short_any 610 (by decide) hpl).mono ?_
    clear hpl
    rintro e w2 ⟨rfl, hb2⟩
    have HB2 := Lib.hid (HBL.out.trans (hb2.mono HBL.out.size))
    have HA2 := Lib.hid (HAL.out.after hb2 (Nat.le_refl _))
    clear hb2 HAL HBL
    rw [H0.out]
    have m0 := HA2.out.c0 (0 + 1) rfl
    have m1 := HA2.out.c1 (0 + 1) rfl
    have m2 := HA2.out.c0 0 rfl
    have m3 := HA2.out.c1 0 rfl
    go_wp2_with fail
    clear m0 m1 m2 m3
    refine (mul_rat a1 a2 b1 b2 _ HZ1.out.1 HZ1.out.2 HZ2.out.1 HZ2.out.2 (HT.out.below HB2.out (Nat.le_refl _))).mono ?_
    rintro e w3 ⟨x1, y1, n1, rfl, hc, hb⟩
    have HC := Lib.hid hc
    have HA3 := Lib.hid ((HA2.out.after hb (Nat.le_refl _)).push x1 y1)
    have HB3 : Hid (Below w.heap.size w (w3.alloc (pObj x1 y1))) := (HB2.out.trans (hb.mono HB2.out.size)).alloc (Nat.le_trans HB2.out.size hb.size) _
    clear hc hb HA2 HB2
    have m0 := HA3.out.c0 (1 + 1) rfl
    have m1 := HA3.out.c1 (1 + 1) rfl
    have m2 := HA3.out.c0 1 rfl
    have m3 := HA3.out.c1 1 rfl
    go_wp2_with fail
    clear m0 m1 m2 m3
    refine (rmul_rat a1 a2 b1 b2 _ HZ1.out.1 HZ1.out.2 HZ2.out.1 HZ2.out.2).mono ?_
    rintro e w4 ⟨x', y', n', rfl, hc, hb⟩
    obtain ⟨rfl, rfl, rfl⟩ := det_bi (det_ans _) _ _ _ _ _ _ HC.out hc
    have HA4 := Lib.hid ((HA3.out.after hb (Nat.le_refl _)).push x1 y1)
    have HB4 : Hid (Below w.heap.size w (w4.alloc (pObj x1 y1))) := (HB3.out.trans (hb.mono HB3.out.size)).alloc (Nat.le_trans HB3.out.size hb.size) _
    clear hc hb HA3 HB3 HC
    have m0 := HA4.out.c0 (2 + 1) rfl
    have m1 := HA4.out.c1 (2 + 1) rfl
    have m2 := HA4.out.c0 2 rfl
    have m3 := HA4.out.c1 2 rfl
    go_wp2_with fail
    clear m0 m1 m2 m3
    refine (div_rat a1 a2 b1 b2 _ HZ1.out.1 HZ1.out.2 HZ2.out.1 HZ2.out.2 (HT.out.below HB4.out (Nat.le_refl _))).mono ?_
    rintro e w5 ⟨x2, y2, n2, rfl, hc, hb⟩
    have HC := Lib.hid hc
    have HA5 := Lib.hid ((HA4.out.after hb (Nat.le_refl _)).push x2 y2)
    have HB5 : Hid (Below w.heap.size w (w5.alloc (pObj x2 y2))) := (HB4.out.trans (hb.mono HB4.out.size)).alloc (Nat.le_trans HB4.out.size hb.size) _
    clear hc hb HA4 HB4
    have m0 := HA5.out.c0 (3 + 1) rfl
    have m1 := HA5.out.c1 (3 + 1) rfl
    have m2 := HA5.out.c0 3 rfl
    have m3 := HA5.out.c1 3 rfl
    go_wp2_with fail
    clear m0 m1 m2 m3
    refine (rdiv_rat a1 a2 b1 b2 _ HZ1.out.1 HZ1.out.2 HZ2.out.1 HZ2.out.2).mono ?_
    rintro e w6 ⟨x', y', n', rfl, hc, hb⟩
    obtain ⟨rfl, rfl, rfl⟩ := det_bi (det_div _ _) _ _ _ _ _ _ HC.out hc
    have HA6 := Lib.hid ((HA5.out.after hb (Nat.le_refl _)).push x2 y2)
    have HB6 : Hid (Below w.heap.size w (w6.alloc (pObj x2 y2))) := (HB5.out.trans (hb.mono HB5.out.size)).alloc (Nat.le_trans HB5.out.size hb.size) _
    clear hc hb HA5 HB5 HC
    have q0 := HA6.out.c0 3 rfl
    have q1 := HA6.out.c1 3 rfl
    have q2 := HA6.out.c0 2 rfl
    have q3 := HA6.out.c1 2 rfl
    go_wp2_with fail
    refine (same_yes x1 y1 n1 _).mono ?_
    rintro e w7 ⟨rfl, hb⟩
    have HA7 := Lib.hid (HA6.out.after hb (Nat.le_refl _))
    have HB7 := Lib.hid (HB6.out.trans (hb.mono HB6.out.size))
    clear hb q0 q1 q2 q3 HA6 HB6
    have q0 := HA7.out.c0 1 rfl
    have q1 := HA7.out.c1 1 rfl
    have q2 := HA7.out.c0 0 rfl
    have q3 := HA7.out.c1 0 rfl
    go_wp2_with fail
    refine (same_yes x2 y2 n2 _).mono ?_
    rintro e w8 ⟨rfl, hb⟩
    have HB8 := Lib.hid (HB7.out.trans (hb.mono HB7.out.size))
    clear hb q0 q1 q2 q3
    go_wp2_with fail
    refine (alive_any _ (HT.out.below HB8.out (Nat.le_refl _))).mono ?_
    rintro e w9 ⟨rfl, hb⟩
    have HB9 := Lib.hid (HB8.out.trans (hb.mono HB8.out.size))
    clear hb
    go_wp2
    go_ret
    exact ⟨rfl, HB9.out⟩

set_option maxRecDepth 100000 in
set_option maxHeartbeats 8000000 in
theorem sums_law (a1 a2 b1 b2 : ByteArray) (w : World) (hT : Tabs w) : Calls Tryz.prog 10 #[pV a1 a2, pV b1 b2] w (BoolPost w true) := by
  have HT := Lib.hid hT
  clear hT
  cases h0 : shortB 610 [(a1, a2), (b1, b2)]
  · have H0 := Lib.hid h0
    clear h0
    go_enter Tryz.func10, Tryz.ntmps10
    go_wp2_with fail
    obtain ⟨w0, hw0⟩ : ∃ w0, (w.alloc (pObj a1 a2)).alloc (pObj b1 b2) = w0 := ⟨_, rfl⟩
    rw [hw0]
    have HB0 : Hid (Below w.heap.size w w0) := by rw [← hw0]; exact ((Below.refl _ w).alloc (Nat.le_refl _) _).alloc (by simp) _
    have HA0 : Hid (Ats [(w.heap.size + 1, b1, b2), (w.heap.size, a1, a2)] w0) := by
      rw [← hw0]
      exact Ats.pair w a1 a2 b1 b2
    have hsz0 : w0.heap.size = w.heap.size + 1 + 1 := by rw [← hw0]; simp
    clear hw0
    have hpl := pl_two w0 a1 a2 b1 b2
    rw [hsz0] at hpl
    have hal := (Below.refl w0.heap.size w0).alloc (Nat.le_refl _) (.cells #[.string a1, .string a2, .string b1, .string b2] 24)
    have HBL := Lib.hid (HB0.out.trans (hal.mono HB0.out.size))
    have HAL := Lib.hid (HA0.out.after hal (Nat.le_refl _))
    clear hal HA0 HB0
    clear hsz0
    refine (short_any 610 (by decide) hpl).mono ?_
    clear hpl
    rintro e w2 ⟨rfl, hb2⟩
    have HB2 := Lib.hid (HBL.out.trans (hb2.mono HBL.out.size))
    have HA2 := Lib.hid (HAL.out.after hb2 (Nat.le_refl _))
    clear hb2 HAL HBL
    rw [H0.out]
    go_wp2_with fail
    refine (alive_any _ (HT.out.below HB2.out (Nat.le_refl _))).mono ?_
    rintro e w3 ⟨rfl, hb3⟩
    have HB3 := Lib.hid (HB2.out.trans (hb3.mono HB2.out.size))
    clear hb3
    go_wp2
    go_ret
    exact ⟨rfl, HB3.out⟩
  · have hs := shortB_iff.1 h0
    have hz1 : a1.size ≤ 1000000 ∧ a2.size ≤ 1000000 := by have := hs (a1, a2) (by simp); dsimp only at this; omega
    have hz2 : b1.size ≤ 1000000 ∧ b2.size ≤ 1000000 := by have := hs (b1, b2) (by simp); dsimp only at this; omega
    have HZ1 := Lib.hid hz1
    have HZ2 := Lib.hid hz2
    have H0 := Lib.hid h0
    clear h0 hs hz1 hz2
    go_enter Tryz.func10, Tryz.ntmps10
    go_wp2_with fail
    obtain ⟨w0, hw0⟩ : ∃ w0, (w.alloc (pObj a1 a2)).alloc (pObj b1 b2) = w0 := ⟨_, rfl⟩
    rw [hw0]
    have HB0 : Hid (Below w.heap.size w w0) := by rw [← hw0]; exact ((Below.refl _ w).alloc (Nat.le_refl _) _).alloc (by simp) _
    have HA0 : Hid (Ats [(w.heap.size + 1, b1, b2), (w.heap.size, a1, a2)] w0) := by
      rw [← hw0]
      exact Ats.pair w a1 a2 b1 b2
    have hsz0 : w0.heap.size = w.heap.size + 1 + 1 := by rw [← hw0]; simp
    clear hw0
    have hpl := pl_two w0 a1 a2 b1 b2
    rw [hsz0] at hpl
    have hal := (Below.refl w0.heap.size w0).alloc (Nat.le_refl _) (.cells #[.string a1, .string a2, .string b1, .string b2] 24)
    have HBL := Lib.hid (HB0.out.trans (hal.mono HB0.out.size))
    have HAL := Lib.hid (HA0.out.after hal (Nat.le_refl _))
    clear hal HA0 HB0
    clear hsz0
    refine (short_any 610 (by decide) hpl).mono ?_
    clear hpl
    rintro e w2 ⟨rfl, hb2⟩
    have HB2 := Lib.hid (HBL.out.trans (hb2.mono HBL.out.size))
    have HA2 := Lib.hid (HAL.out.after hb2 (Nat.le_refl _))
    clear hb2 HAL HBL
    rw [H0.out]
    have m0 := HA2.out.c0 (0 + 1) rfl
    have m1 := HA2.out.c1 (0 + 1) rfl
    have m2 := HA2.out.c0 0 rfl
    have m3 := HA2.out.c1 0 rfl
    go_wp2_with fail
    clear m0 m1 m2 m3
    refine (add_rat a1 a2 b1 b2 _ HZ1.out.1 HZ1.out.2 HZ2.out.1 HZ2.out.2 (HT.out.below HB2.out (Nat.le_refl _))).mono ?_
    rintro e w3 ⟨x1, y1, n1, rfl, hc, hb⟩
    have HC := Lib.hid hc
    have HA3 := Lib.hid ((HA2.out.after hb (Nat.le_refl _)).push x1 y1)
    have HB3 : Hid (Below w.heap.size w (w3.alloc (pObj x1 y1))) := (HB2.out.trans (hb.mono HB2.out.size)).alloc (Nat.le_trans HB2.out.size hb.size) _
    clear hc hb HA2 HB2
    have m0 := HA3.out.c0 (1 + 1) rfl
    have m1 := HA3.out.c1 (1 + 1) rfl
    have m2 := HA3.out.c0 1 rfl
    have m3 := HA3.out.c1 1 rfl
    go_wp2_with fail
    clear m0 m1 m2 m3
    refine (radd_rat a1 a2 b1 b2 _ HZ1.out.1 HZ1.out.2 HZ2.out.1 HZ2.out.2).mono ?_
    rintro e w4 ⟨x', y', n', rfl, hc, hb⟩
    obtain ⟨rfl, rfl, rfl⟩ := det_bi (det_ans _) _ _ _ _ _ _ HC.out hc
    have HA4 := Lib.hid ((HA3.out.after hb (Nat.le_refl _)).push x1 y1)
    have HB4 : Hid (Below w.heap.size w (w4.alloc (pObj x1 y1))) := (HB3.out.trans (hb.mono HB3.out.size)).alloc (Nat.le_trans HB3.out.size hb.size) _
    clear hc hb HA3 HB3 HC
    have m0 := HA4.out.c0 (2 + 1) rfl
    have m1 := HA4.out.c1 (2 + 1) rfl
    have m2 := HA4.out.c0 2 rfl
    have m3 := HA4.out.c1 2 rfl
    go_wp2_with fail
    clear m0 m1 m2 m3
    refine (sub_rat a1 a2 b1 b2 _ HZ1.out.1 HZ1.out.2 HZ2.out.1 HZ2.out.2 (HT.out.below HB4.out (Nat.le_refl _))).mono ?_
    rintro e w5 ⟨x2, y2, n2, rfl, hc, hb⟩
    have HC := Lib.hid hc
    have HA5 := Lib.hid ((HA4.out.after hb (Nat.le_refl _)).push x2 y2)
    have HB5 : Hid (Below w.heap.size w (w5.alloc (pObj x2 y2))) := (HB4.out.trans (hb.mono HB4.out.size)).alloc (Nat.le_trans HB4.out.size hb.size) _
    clear hc hb HA4 HB4
    have m0 := HA5.out.c0 (3 + 1) rfl
    have m1 := HA5.out.c1 (3 + 1) rfl
    have m2 := HA5.out.c0 3 rfl
    have m3 := HA5.out.c1 3 rfl
    go_wp2_with fail
    clear m0 m1 m2 m3
    refine (rsub_rat a1 a2 b1 b2 _ HZ1.out.1 HZ1.out.2 HZ2.out.1 HZ2.out.2).mono ?_
    rintro e w6 ⟨x', y', n', rfl, hc, hb⟩
    obtain ⟨rfl, rfl, rfl⟩ := det_bi (det_sub _ _) _ _ _ _ _ _ HC.out hc
    have HA6 := Lib.hid ((HA5.out.after hb (Nat.le_refl _)).push x2 y2)
    have HB6 : Hid (Below w.heap.size w (w6.alloc (pObj x2 y2))) := (HB5.out.trans (hb.mono HB5.out.size)).alloc (Nat.le_trans HB5.out.size hb.size) _
    clear hc hb HA5 HB5 HC
    have m0 := HA6.out.c0 5 rfl
    have m1 := HA6.out.c1 5 rfl
    go_wp2_with fail
    clear m0 m1
    refine (not_any a1 a2 _ HZ1.out.1 HZ1.out.2 (HT.out.below HB6.out (Nat.le_refl _))).mono ?_
    rintro e w7 ⟨x3, y3, n3, rfl, hc, hb⟩
    have HC := Lib.hid hc
    have HA7 := Lib.hid ((HA6.out.after hb (Nat.le_refl _)).push x3 y3)
    have HB7 : Hid (Below w.heap.size w (w7.alloc (pObj x3 y3))) := (HB6.out.trans (hb.mono HB6.out.size)).alloc (Nat.le_trans HB6.out.size hb.size) _
    clear hc hb HA6 HB6
    have m0 := HA7.out.c0 6 rfl
    have m1 := HA7.out.c1 6 rfl
    go_wp2_with fail
    clear m0 m1
    refine (rnot_any a1 a2 _ HZ1.out.1 HZ1.out.2).mono ?_
    rintro e w8 ⟨x', y', n', rfl, hc, hb⟩
    obtain ⟨rfl, rfl, rfl⟩ := det_bi (det_sub _ _) _ _ _ _ _ _ HC.out hc
    have HA8 := Lib.hid ((HA7.out.after hb (Nat.le_refl _)).push x3 y3)
    have HB8 : Hid (Below w.heap.size w (w8.alloc (pObj x3 y3))) := (HB7.out.trans (hb.mono HB7.out.size)).alloc (Nat.le_trans HB7.out.size hb.size) _
    clear hc hb HA7 HB7 HC
    go_wp2_with fail
    obtain ⟨W, hW⟩ : ∃ W, w8.alloc (pObj x3 y3) = W := ⟨_, rfl⟩
    have HAW : Hid (Ats [(w8.heap.size, x3, y3), (w7.heap.size, x3, y3), (w6.heap.size, x2, y2), (w5.heap.size, x2, y2), (w4.heap.size, x1, y1), (w3.heap.size, x1, y1), (w.heap.size + 1, b1, b2), (w.heap.size, a1, a2)] W) := by rw [← hW]; exact HA8
    have HBW : Hid (Below w.heap.size w W) := by rw [← hW]; exact HB8
    have hS : ∀ w', Below W.heap.size W w' → w'.cell? ⟨w3.heap.size, 0, none⟩ = some (.string x1) ∧ w'.cell? ⟨w3.heap.size, 1, none⟩ = some (.string y1) ∧ w'.cell? ⟨w4.heap.size, 0, none⟩ = some (.string x1) ∧ w'.cell? ⟨w4.heap.size, 1, none⟩ = some (.string y1) ∧ w'.cell? ⟨w5.heap.size, 0, none⟩ = some (.string x2) ∧ w'.cell? ⟨w5.heap.size, 1, none⟩ = some (.string y2) ∧ w'.cell? ⟨w6.heap.size, 0, none⟩ = some (.string x2) ∧ w'.cell? ⟨w6.heap.size, 1, none⟩ = some (.string y2) ∧ w'.cell? ⟨w7.heap.size, 0, none⟩ = some (.string x3) ∧ w'.cell? ⟨w7.heap.size, 1, none⟩ = some (.string y3) ∧ w'.cell? ⟨w8.heap.size, 0, none⟩ = some (.string x3) ∧ w'.cell? ⟨w8.heap.size, 1, none⟩ = some (.string y3) ∧ w'.cell? ⟨w.heap.size, 0, none⟩ = some (.string a1) ∧ w'.cell? ⟨w.heap.size, 1, none⟩ = some (.string a2) ∧ w'.cell? ⟨w.heap.size + 1, 0, none⟩ = some (.string b1) ∧ w'.cell? ⟨w.heap.size + 1, 1, none⟩ = some (.string b2) := fun w' hb => by
      have h1 := HAW.out.after hb (Nat.le_refl _)
      exact ⟨h1.c0 5 rfl, h1.c1 5 rfl, h1.c0 4 rfl, h1.c1 4 rfl, h1.c0 3 rfl, h1.c1 3 rfl, h1.c0 2 rfl, h1.c1 2 rfl, h1.c0 1 rfl, h1.c1 1 rfl, h1.c0 0 rfl, h1.c1 0 rfl, h1.c0 7 rfl, h1.c1 7 rfl, h1.c0 6 rfl, h1.c1 6 rfl⟩
    have HS := Lib.hid hS
    rw [hW]
    clear hW HA8 HB8
    obtain ⟨k0, k1, k2, k3, k4, k5, k6, k7, k8, k9, k10, k11, k12, k13, k14, k15⟩ := hS W (Below.refl _ W)
    clear hS
    go_region_held3
      (fun w' => w'.cell? ⟨w3.heap.size, 0, none⟩ = some (.string x1) ∧ w'.cell? ⟨w3.heap.size, 1, none⟩ = some (.string y1) ∧ w'.cell? ⟨w4.heap.size, 0, none⟩ = some (.string x1) ∧ w'.cell? ⟨w4.heap.size, 1, none⟩ = some (.string y1) ∧ w'.cell? ⟨w5.heap.size, 0, none⟩ = some (.string x2) ∧ w'.cell? ⟨w5.heap.size, 1, none⟩ = some (.string y2) ∧ w'.cell? ⟨w6.heap.size, 0, none⟩ = some (.string x2) ∧ w'.cell? ⟨w6.heap.size, 1, none⟩ = some (.string y2) ∧ w'.cell? ⟨w7.heap.size, 0, none⟩ = some (.string x3) ∧ w'.cell? ⟨w7.heap.size, 1, none⟩ = some (.string y3) ∧ w'.cell? ⟨w8.heap.size, 0, none⟩ = some (.string x3) ∧ w'.cell? ⟨w8.heap.size, 1, none⟩ = some (.string y3) ∧ w'.cell? ⟨w.heap.size, 0, none⟩ = some (.string a1) ∧ w'.cell? ⟨w.heap.size, 1, none⟩ = some (.string a2) ∧ w'.cell? ⟨w.heap.size + 1, 0, none⟩ = some (.string b1) ∧ w'.cell? ⟨w.heap.size + 1, 1, none⟩ = some (.string b2))
      (first | exact ⟨k0, k1, k2, k3, k4, k5, k6, k7, k8, k9, k10, k11, k12, k13, k14, k15⟩ | exact HK11.out | exact HK12.out | exact HK13.out | exact HK14.out | exact HK15.out | exact HK16.out)
      (first
        | (go_at_call_of 22 (Value.agg #[.string x1, .string y1]); refine (same_yes x1 y1 n1 _).mono ?_; rintro e v11 ⟨rfl, hb⟩; have HX11 : Hid (Below W.heap.size W v11) := ((Below.refl W.heap.size W).drew).trans hb; have HK11 := Lib.hid (HS.out v11 HX11.out); clear hb)
        | (go_at_call_of 22 (Value.agg #[.string x2, .string y2]); refine (same_yes x2 y2 n2 _).mono ?_; rintro e v12 ⟨rfl, hb⟩; have HX12 : Hid (Below W.heap.size W v12) := HX11.out.trans (hb.mono HX11.out.size); have HK12 := Lib.hid (HS.out v12 HX12.out); clear hb)
        | (go_at_call_of 22 (Value.agg #[.string x3, .string y3]); refine (same_yes x3 y3 n3 _).mono ?_; rintro e v13 ⟨rfl, hb⟩; have HX13 : Hid (Below W.heap.size W v13) := HX12.out.trans (hb.mono HX12.out.size); have HK13 := Lib.hid (HS.out v13 HX13.out); clear hb)
        | (go_at_call 37; refine (compare_rat a1 a2 b1 b2 _ HZ1.out.1 HZ1.out.2 HZ2.out.1 HZ2.out.2).mono ?_; rintro e v14 ⟨m, rfl, hm, hb⟩; have HM := Lib.hid hm; have HX14 : Hid (Below W.heap.size W v14) := HX13.out.trans (hb.mono HX13.out.size); have HK14 := Lib.hid (HS.out v14 HX14.out); clear hb hm)
        | (go_at_call 42; refine (rcompare_rat a1 a2 b1 b2 _ HZ1.out.1 HZ1.out.2 HZ2.out.1 HZ2.out.2).mono ?_; rintro e v15 ⟨m', rfl, hm, hb⟩; obtain rfl := det_cmp HM.out hm; have HX15 : Hid (Below W.heap.size W v15) := HX14.out.trans (hb.mono HX14.out.size); have HK15 := Lib.hid (HS.out v15 HX15.out); clear hb hm)
        | (go_at_call 17; refine (alive_any _ (HT.out.below (HBW.out.trans (HX15.out.mono HBW.out.size)) (Nat.le_refl _))).mono ?_; rintro e v16 ⟨rfl, hb⟩; have HX16 : Hid (Below W.heap.size W v16) := HX15.out.trans (hb.mono HX15.out.size); have HK16 := Lib.hid (HS.out v16 HX16.out); clear hb))
    clear k0 k1 k2 k3 k4 k5 k6 k7 k8 k9 k10 k11 k12 k13 k14 k15
    go_wp2
    go_ret
    exact ⟨rfl, HBW.out.trans (HX16.out.mono HBW.out.size)⟩
end Go.Proofs.YthbpadjhlkdpeaaGreatDoor
