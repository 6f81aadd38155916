/- The parts LawNames of a proof, put together by program (merge.py). -/
import Derived.Test.YthbpadjhlkdpeaaGreatDoorG43
import Derived.Test.YthbpadjhlkdpeaaGreatDoorG03
/- WeightNames' walk: by program (names.py). -/
namespace Go.Proofs.YthbpadjhlkdpeaaGreatDoor
open Go.RowKit Go.Shelf
attribute [local go_sem ↓] Go.wp_at_zero Go.wp_at_succ

theorem carry_along {w w2 : World} {S : World → Prop} (h : ∀ w', Below w.heap.size w w' → S w') (b : Below w.heap.size w w2) : ∀ w', Below w2.heap.size w2 w' → S w' := fun w' k => h w' (b.trans (k.mono b.size))
set_option maxRecDepth 100000 in
set_option maxHeartbeats 32000000 in
theorem names_law (w : World) (hT : Tabs w) (hV : TensV w) (hM : MaxV w) : Calls Tryz.prog 15 #[] w (BoolPost w true) := by
  have HT := Lib.hid hT
  have HV := Lib.hid hV
  have HM := Lib.hid hM
  clear hT hV hM
  obtain ⟨i0, hi, hz0, hz1, hz2⟩ := info_parts info_part
  go_enter Tryz.func15, Tryz.ntmps15
  have HB0 := Lib.hid (Below.refl w.heap.size w)
  have HA0 := Lib.hid (Ats.nil w)
  go_wp2_with fail
  refine (make_is ex_made1 (by decide) (by decide) _ (HT.out.below HB0.out (Nat.le_refl _))).mono ?_
  rintro e w1 ⟨rfl, hb⟩
  have hbp := hb.alloc hb.size (pObj ⟨#[48]⟩ ⟨#[49]⟩)
  have HB1 : Hid (Below w.heap.size w (w1.alloc (pObj ⟨#[48]⟩ ⟨#[49]⟩))) := HB0.out.trans (hbp.mono HB0.out.size)
  have HA1 := Lib.hid ((HA0.out.after hb (Nat.le_refl _)).push ⟨#[48]⟩ ⟨#[49]⟩)
  clear hb hbp HA0 HB0
  go_wp2_with fail
  refine (make_is ex_made2 (by decide) (by decide) _ (HT.out.below HB1.out (Nat.le_refl _))).mono ?_
  rintro e w2 ⟨rfl, hb⟩
  have hbp := hb.alloc hb.size (pObj ⟨#[]⟩ ⟨#[]⟩)
  have HB2 : Hid (Below w.heap.size w (w2.alloc (pObj ⟨#[]⟩ ⟨#[]⟩))) := HB1.out.trans (hbp.mono HB1.out.size)
  have HA2 := Lib.hid ((HA1.out.after hb (Nat.le_refl _)).push ⟨#[]⟩ ⟨#[]⟩)
  clear hb hbp HA1 HB1
  go_wp2_with fail
  refine (make_is ex_made3 (by decide) (by decide) _ (HT.out.below HB2.out (Nat.le_refl _))).mono ?_
  rintro e w3 ⟨rfl, hb⟩
  have hbp := hb.alloc hb.size (pObj ⟨#[]⟩ ⟨#[]⟩)
  have HB3 : Hid (Below w.heap.size w (w3.alloc (pObj ⟨#[]⟩ ⟨#[]⟩))) := HB2.out.trans (hbp.mono HB2.out.size)
  have HA3 := Lib.hid ((HA2.out.after hb (Nat.le_refl _)).push ⟨#[]⟩ ⟨#[]⟩)
  clear hb hbp HA2 HB2
  go_wp2_with fail
  refine (read_is ex_read1 (by decide) _ (HT.out.below HB3.out (Nat.le_refl _)) (HV.out.below HB3.out (Nat.le_refl _)) (HM.out.below HB3.out (Nat.le_refl _))).mono ?_
  rintro e w4 ⟨rfl, hb⟩
  have hbp := hb.alloc hb.size (pObj ⟨#[49]⟩ ⟨#[52]⟩)
  have HB4 : Hid (Below w.heap.size w (w4.alloc (pObj ⟨#[49]⟩ ⟨#[52]⟩))) := HB3.out.trans (hbp.mono HB3.out.size)
  have HA4 := Lib.hid ((HA3.out.after hb (Nat.le_refl _)).push ⟨#[49]⟩ ⟨#[52]⟩)
  clear hb hbp HA3 HB3
  go_wp2_with fail
  refine (read_is ex_read2 (by decide) _ (HT.out.below HB4.out (Nat.le_refl _)) (HV.out.below HB4.out (Nat.le_refl _)) (HM.out.below HB4.out (Nat.le_refl _))).mono ?_
  rintro e w5 ⟨rfl, hb⟩
  have hbp := hb.alloc hb.size (pObj ⟨#[49]⟩ ⟨#[50]⟩)
  have HB5 : Hid (Below w.heap.size w (w5.alloc (pObj ⟨#[49]⟩ ⟨#[50]⟩))) := HB4.out.trans (hbp.mono HB4.out.size)
  have HA5 := Lib.hid ((HA4.out.after hb (Nat.le_refl _)).push ⟨#[49]⟩ ⟨#[50]⟩)
  clear hb hbp HA4 HB4
  go_wp2_with fail
  refine (read_is ex_read3 (by decide) _ (HT.out.below HB5.out (Nat.le_refl _)) (HV.out.below HB5.out (Nat.le_refl _)) (HM.out.below HB5.out (Nat.le_refl _))).mono ?_
  rintro e w6 ⟨rfl, hb⟩
  have hbp := hb.alloc hb.size (pObj ⟨#[]⟩ ⟨#[]⟩)
  have HB6 : Hid (Below w.heap.size w (w6.alloc (pObj ⟨#[]⟩ ⟨#[]⟩))) := HB5.out.trans (hbp.mono HB5.out.size)
  have HA6 := Lib.hid ((HA5.out.after hb (Nat.le_refl _)).push ⟨#[]⟩ ⟨#[]⟩)
  clear hb hbp HA5 HB5
  go_wp2_with fail
  refine (read_is ex_read4 (by decide) _ (HT.out.below HB6.out (Nat.le_refl _)) (HV.out.below HB6.out (Nat.le_refl _)) (HM.out.below HB6.out (Nat.le_refl _))).mono ?_
  rintro e w7 ⟨rfl, hb⟩
  have hbp := hb.alloc hb.size (pObj ⟨#[]⟩ ⟨#[]⟩)
  have HB7 : Hid (Below w.heap.size w (w7.alloc (pObj ⟨#[]⟩ ⟨#[]⟩))) := HB6.out.trans (hbp.mono HB6.out.size)
  have HA7 := Lib.hid ((HA6.out.after hb (Nat.le_refl _)).push ⟨#[]⟩ ⟨#[]⟩)
  clear hb hbp HA6 HB6
  go_wp2_with fail
  refine (read_is ex_read5 (by decide) _ (HT.out.below HB7.out (Nat.le_refl _)) (HV.out.below HB7.out (Nat.le_refl _)) (HM.out.below HB7.out (Nat.le_refl _))).mono ?_
  rintro e w8 ⟨rfl, hb⟩
  have hbp := hb.alloc hb.size (pObj ⟨#[]⟩ ⟨#[]⟩)
  have HB8 : Hid (Below w.heap.size w (w8.alloc (pObj ⟨#[]⟩ ⟨#[]⟩))) := HB7.out.trans (hbp.mono HB7.out.size)
  have HA8 := Lib.hid ((HA7.out.after hb (Nat.le_refl _)).push ⟨#[]⟩ ⟨#[]⟩)
  clear hb hbp HA7 HB7
  go_wp2_with fail
  refine (read_is ex_read6 (by decide) _ (HT.out.below HB8.out (Nat.le_refl _)) (HV.out.below HB8.out (Nat.le_refl _)) (HM.out.below HB8.out (Nat.le_refl _))).mono ?_
  rintro e w9 ⟨rfl, hb⟩
  have hbp := hb.alloc hb.size (pObj ⟨#[]⟩ ⟨#[]⟩)
  have HB9 : Hid (Below w.heap.size w (w9.alloc (pObj ⟨#[]⟩ ⟨#[]⟩))) := HB8.out.trans (hbp.mono HB8.out.size)
  have HA9 := Lib.hid ((HA8.out.after hb (Nat.le_refl _)).push ⟨#[]⟩ ⟨#[]⟩)
  clear hb hbp HA8 HB8
  go_wp2_with fail
  obtain ⟨W1, hW1⟩ : ∃ W, w9.alloc (pObj ⟨#[]⟩ ⟨#[]⟩) = W := ⟨_, rfl⟩
  have HBW1 : Hid (Below w.heap.size w W1) := by rw [← hW1]; exact HB9.out
  have hS : ∀ w', Below W1.heap.size W1 w' → w'.cell? ⟨w1.heap.size, 0, none⟩ = some (.string ⟨#[48]⟩) ∧ w'.cell? ⟨w1.heap.size, 1, none⟩ = some (.string ⟨#[49]⟩) ∧ w'.cell? ⟨w4.heap.size, 0, none⟩ = some (.string ⟨#[49]⟩) ∧ w'.cell? ⟨w4.heap.size, 1, none⟩ = some (.string ⟨#[52]⟩) ∧ w'.cell? ⟨w5.heap.size, 0, none⟩ = some (.string ⟨#[49]⟩) ∧ w'.cell? ⟨w5.heap.size, 1, none⟩ = some (.string ⟨#[50]⟩) := by
    rw [← hW1]
    intro w' hb
    have hA := HA9.out.after hb (Nat.le_refl _)
    exact ⟨hA.c0 8 rfl, hA.c1 8 rfl, hA.c0 5 rfl, hA.c1 5 rfl, hA.c0 4 rfl, hA.c1 4 rfl⟩
  have HS := Lib.hid hS
  obtain ⟨k0, k1, k2, k3, k4, k5⟩ := hS W1 (Below.refl _ W1)
  clear hS
  rw [hW1]
  clear hW1 HA9 HB9
  go_region_held3
    (fun w' => w'.cell? ⟨w1.heap.size, 0, none⟩ = some (.string ⟨#[48]⟩) ∧ w'.cell? ⟨w1.heap.size, 1, none⟩ = some (.string ⟨#[49]⟩) ∧ w'.cell? ⟨w4.heap.size, 0, none⟩ = some (.string ⟨#[49]⟩) ∧ w'.cell? ⟨w4.heap.size, 1, none⟩ = some (.string ⟨#[52]⟩) ∧ w'.cell? ⟨w5.heap.size, 0, none⟩ = some (.string ⟨#[49]⟩) ∧ w'.cell? ⟨w5.heap.size, 1, none⟩ = some (.string ⟨#[50]⟩))
    (first | exact ⟨k0, k1, k2, k3, k4, k5⟩ | exact HK0.out | exact HK1.out)
    (first
      | (go_at_call_of 30 (Value.int .i64 4); refine (of_14 _ (HT.out.below (HBW1.out.trans (((Below.refl W1.heap.size W1).drew).mono HBW1.out.size)) (Nat.le_refl _))).mono ?_; rintro e v0 ⟨rfl, hb⟩; have HX0 : Hid (Below W1.heap.size W1 v0) := ((Below.refl W1.heap.size W1).drew).trans (hb.mono ((Below.refl W1.heap.size W1).drew).size); have HK0 := Lib.hid (HS.out v0 HX0.out); clear hb)
      | (go_at_call 30; refine (of_12 _ (HT.out.below (HBW1.out.trans (HX0.out.mono HBW1.out.size)) (Nat.le_refl _))).mono ?_; rintro e v1 ⟨rfl, hb⟩; have HX1 : Hid (Below W1.heap.size W1 v1) := HX0.out.trans (hb.mono HX0.out.size); have HK1 := Lib.hid (HS.out v1 HX1.out); clear hb))
  clear k0 k1 k2 k3 k4 k5
  have HB10 : Hid (Below w.heap.size w v1) := HBW1.out.trans (HX1.out.mono HBW1.out.size)
  have HA10 := Lib.hid (Ats.nil v1)
  clear HBW1 HS HK0 HK1
  clear HX0 HX1
  obtain ⟨w10, hw10⟩ : ∃ z, v1 = z := ⟨_, rfl⟩
  rw [hw10] at HA10 HB10 ⊢
  clear hw10
  go_wp2_with fail
  refine (of_13 _ (HT.out.below HB10.out (Nat.le_refl _))).mono ?_
  rintro e w11 ⟨rfl, hb⟩
  have HB11 := Lib.hid (HB10.out.trans (hb.mono HB10.out.size))
  have HA11 := Lib.hid (HA10.out.after hb (Nat.le_refl _))
  clear hb HA10 HB10
  go_wp2_with fail
  refine (decimal_is ex_dec1 (by decide) (by decide) (by decide) (by decide) _ (HT.out.below HB11.out (Nat.le_refl _)) (HV.out.below HB11.out (Nat.le_refl _))).mono ?_
  rintro e w12 ⟨rfl, hb⟩
  have HB12 := Lib.hid (HB11.out.trans (hb.mono HB11.out.size))
  have HA12 := Lib.hid (HA11.out.after hb (Nat.le_refl _))
  clear hb HA11 HB11
  go_wp2_with fail
  refine (of_52 _ (HT.out.below HB12.out (Nat.le_refl _))).mono ?_
  rintro e w13 ⟨rfl, hb⟩
  have HB13 := Lib.hid (HB12.out.trans (hb.mono HB12.out.size))
  have HA13 := Lib.hid (HA12.out.after hb (Nat.le_refl _))
  clear hb HA12 HB12
  go_wp2_with fail
  refine (decimal_is ex_dec2 (by decide) (by decide) (by decide) (by decide) _ (HT.out.below HB13.out (Nat.le_refl _)) (HV.out.below HB13.out (Nat.le_refl _))).mono ?_
  rintro e w14 ⟨rfl, hb⟩
  have HB14 := Lib.hid (HB13.out.trans (hb.mono HB13.out.size))
  have HA14 := Lib.hid (HA13.out.after hb (Nat.le_refl _))
  clear hb HA13 HB13
  go_wp2_with fail
  refine (of_18 _ (HT.out.below HB14.out (Nat.le_refl _))).mono ?_
  rintro e w15 ⟨rfl, hb⟩
  have HB15 := Lib.hid (HB14.out.trans (hb.mono HB14.out.size))
  have HA15 := Lib.hid (HA14.out.after hb (Nat.le_refl _))
  clear hb HA14 HB14
  go_wp2_with fail
  refine (decimal_is ex_dec3 (by decide) (by decide) (by decide) (by decide) _ (HT.out.below HB15.out (Nat.le_refl _)) (HV.out.below HB15.out (Nat.le_refl _))).mono ?_
  rintro e w16 ⟨rfl, hb⟩
  have HB16 := Lib.hid (HB15.out.trans (hb.mono HB15.out.size))
  have HA16 := Lib.hid (HA15.out.after hb (Nat.le_refl _))
  clear hb HA15 HB15
  go_wp2_with fail
  refine (of_13 _ (HT.out.below HB16.out (Nat.le_refl _))).mono ?_
  rintro e w17 ⟨rfl, hb⟩
  have HB17 := Lib.hid (HB16.out.trans (hb.mono HB16.out.size))
  have HA17 := Lib.hid (HA16.out.after hb (Nat.le_refl _))
  clear hb HA16 HB16
  go_wp2_with fail
  refine (of_12 _ (HT.out.below HB17.out (Nat.le_refl _))).mono ?_
  rintro e w18 ⟨rfl, hb⟩
  have HB18 := Lib.hid (HB17.out.trans (hb.mono HB17.out.size))
  have HA18 := Lib.hid (HA17.out.after hb (Nat.le_refl _))
  clear hb HA17 HB17
  go_wp2_with fail
  refine (sub_less p13 p12 (by decide +kernel) _ (HT.out.below HB18.out (Nat.le_refl _))).mono ?_
  rintro e w19 ⟨rfl, hb⟩
  have hbp := hb.alloc hb.size (pObj ⟨#[]⟩ ⟨#[]⟩)
  have HB19 : Hid (Below w.heap.size w (w19.alloc (pObj ⟨#[]⟩ ⟨#[]⟩))) := HB18.out.trans (hbp.mono HB18.out.size)
  have HA19 := Lib.hid ((HA18.out.after hb (Nat.le_refl _)).push ⟨#[]⟩ ⟨#[]⟩)
  clear hb hbp HA18 HB18
  go_wp2_with fail
  refine (of_310 _ (HT.out.below HB19.out (Nat.le_refl _))).mono ?_
  rintro e w20 ⟨rfl, hb⟩
  have HB20 := Lib.hid (HB19.out.trans (hb.mono HB19.out.size))
  have HA20 := Lib.hid (HA19.out.after hb (Nat.le_refl _))
  clear hb HA19 HB19
  go_wp2_with fail
  refine (not_ex _ (HT.out.below HB20.out (Nat.le_refl _))).mono ?_
  rintro e w21 ⟨rfl, hb⟩
  have hbp := hb.alloc hb.size (pObj ⟨#[55]⟩ ⟨#[49, 48]⟩)
  have HB21 : Hid (Below w.heap.size w (w21.alloc (pObj ⟨#[55]⟩ ⟨#[49, 48]⟩))) := HB20.out.trans (hbp.mono HB20.out.size)
  have HA21 := Lib.hid ((HA20.out.after hb (Nat.le_refl _)).push ⟨#[55]⟩ ⟨#[49, 48]⟩)
  clear hb hbp HA20 HB20
  go_wp2_with fail
  refine (of_11 _ (HT.out.below HB21.out (Nat.le_refl _))).mono ?_
  rintro e w22 ⟨rfl, hb⟩
  have HB22 := Lib.hid (HB21.out.trans (hb.mono HB21.out.size))
  have HA22 := Lib.hid (HA21.out.after hb (Nat.le_refl _))
  clear hb HA21 HB21
  go_wp2_with fail
  refine (of_21 _ (HT.out.below HB22.out (Nat.le_refl _))).mono ?_
  rintro e w23 ⟨rfl, hb⟩
  have HB23 := Lib.hid (HB22.out.trans (hb.mono HB22.out.size))
  have HA23 := Lib.hid (HA22.out.after hb (Nat.le_refl _))
  clear hb HA22 HB22
  go_wp2_with fail
  refine (of_31 _ (HT.out.below HB23.out (Nat.le_refl _))).mono ?_
  rintro e w24 ⟨rfl, hb⟩
  have HB24 := Lib.hid (HB23.out.trans (hb.mono HB23.out.size))
  have HA24 := Lib.hid (HA23.out.after hb (Nat.le_refl _))
  clear hb HA23 HB23
  obtain ⟨w25, hw25⟩ : ∃ w9, w24.alloc (.cells #[.string ⟨#[49]⟩, .string ⟨#[49]⟩, .string ⟨#[50]⟩, .string ⟨#[49]⟩, .string ⟨#[51]⟩, .string ⟨#[49]⟩] 24) = w9 := ⟨_, rfl⟩
  have hb : Below w24.heap.size w24 w25 := by rw [← hw25]; exact (Below.refl _ w24).alloc (Nat.le_refl _) _
  have HPL25 : Hid (PL w25 (.slice (some ⟨w24.heap.size, 0, none⟩) 3 3) [(⟨#[49]⟩, ⟨#[49]⟩), (⟨#[50]⟩, ⟨#[49]⟩), (⟨#[51]⟩, ⟨#[49]⟩)]) := by rw [← hw25]; exact pl_three _ ⟨#[49]⟩ ⟨#[49]⟩ ⟨#[50]⟩ ⟨#[49]⟩ ⟨#[51]⟩ ⟨#[49]⟩
  have HB25 := Lib.hid (HB24.out.trans (hb.mono HB24.out.size))
  have HA25 := Lib.hid (HA24.out.after hb (Nat.le_refl _))
  go_wp2_with fail
  try rw [hw25]
  clear hb hw25 HA24 HB24
  go_wp2_with fail
  refine (share_ex HPL25.out (HT.out.below HB25.out (Nat.le_refl _))).mono ?_
  rintro e w26 ⟨hb, b1, o1, c1, rfl, hm1, hl1, g0, g1, g4, g5⟩
  have HB26 := Lib.hid (HB25.out.trans (hb.mono HB25.out.size))
  have HA26 := Lib.hid (HA25.out.after hb (Nat.le_refl _))
  unfold maxLen at hm1
  have HSH : Hid (∀ w', Below w26.heap.size w26 w' → w'.cell? ⟨b1, o1, none⟩ = some (.string ⟨#[49]⟩) ∧ w'.cell? ⟨b1, o1 + 1, none⟩ = some (.string ⟨#[54]⟩) ∧ w'.cell? ⟨b1, o1 + 4, none⟩ = some (.string ⟨#[49]⟩) ∧ w'.cell? ⟨b1, o1 + 5, none⟩ = some (.string ⟨#[50]⟩)) := fun w' h => ⟨(h.cell (p := ⟨b1, o1, none⟩) hl1).trans g0, (h.cell (p := ⟨b1, o1 + 1, none⟩) hl1).trans g1, (h.cell (p := ⟨b1, o1 + 4, none⟩) hl1).trans g4, (h.cell (p := ⟨b1, o1 + 5, none⟩) hl1).trans g5⟩
  clear g0 g1 g4 g5 hl1 HPL25
  clear hb HA25 HB25
  go_wp2_with fail
  refine (of_13 _ (HT.out.below HB26.out (Nat.le_refl _))).mono ?_
  rintro e w27 ⟨rfl, hb⟩
  have HB27 := Lib.hid (HB26.out.trans (hb.mono HB26.out.size))
  have HA27 := Lib.hid (HA26.out.after hb (Nat.le_refl _))
  have HSH_ := Lib.hid (carry_along HSH.out hb)
  clear HSH
  have HSH := HSH_
  clear HSH_
  clear hb HA26 HB26
  go_wp2_with fail
  refine (of_12 _ (HT.out.below HB27.out (Nat.le_refl _))).mono ?_
  rintro e w28 ⟨rfl, hb⟩
  have HB28 := Lib.hid (HB27.out.trans (hb.mono HB27.out.size))
  have HA28 := Lib.hid (HA27.out.after hb (Nat.le_refl _))
  have HSH_ := Lib.hid (carry_along HSH.out hb)
  clear HSH
  have HSH := HSH_
  clear HSH_
  clear hb HA27 HB27
  go_wp2_with fail
  refine (of_13 _ (HT.out.below HB28.out (Nat.le_refl _))).mono ?_
  rintro e w29 ⟨rfl, hb⟩
  have HB29 := Lib.hid (HB28.out.trans (hb.mono HB28.out.size))
  have HA29 := Lib.hid (HA28.out.after hb (Nat.le_refl _))
  have HSH_ := Lib.hid (carry_along HSH.out hb)
  clear HSH
  have HSH := HSH_
  clear HSH_
  clear hb HA28 HB28
  obtain ⟨w30, hw30⟩ : ∃ w9, w29.alloc (.cells #[.string ⟨#[49]⟩, .string ⟨#[51]⟩, .string ⟨#[49]⟩, .string ⟨#[50]⟩, .string ⟨#[49]⟩, .string ⟨#[51]⟩] 24) = w9 := ⟨_, rfl⟩
  have hb : Below w29.heap.size w29 w30 := by rw [← hw30]; exact (Below.refl _ w29).alloc (Nat.le_refl _) _
  have HPL30 : Hid (PL w30 (.slice (some ⟨w29.heap.size, 0, none⟩) 3 3) [(⟨#[49]⟩, ⟨#[51]⟩), (⟨#[49]⟩, ⟨#[50]⟩), (⟨#[49]⟩, ⟨#[51]⟩)]) := by rw [← hw30]; exact pl_three _ ⟨#[49]⟩ ⟨#[51]⟩ ⟨#[49]⟩ ⟨#[50]⟩ ⟨#[49]⟩ ⟨#[51]⟩
  have HB30 := Lib.hid (HB29.out.trans (hb.mono HB29.out.size))
  have HA30 := Lib.hid (HA29.out.after hb (Nat.le_refl _))
  have HSH_ := Lib.hid (carry_along HSH.out hb)
  clear HSH
  have HSH := HSH_
  clear HSH_
  go_wp2_with fail
  try rw [hw30]
  clear hb hw30 HA29 HB29
  go_wp2_with fail
  refine (rank_ex HPL30.out).mono ?_
  rintro e w31 ⟨hb, b2, o2, c2, rfl, hm2, hl2, g0, g1⟩
  have HB31 := Lib.hid (HB30.out.trans (hb.mono HB30.out.size))
  have HA31 := Lib.hid (HA30.out.after hb (Nat.le_refl _))
  have HSH_ := Lib.hid (carry_along HSH.out hb)
  clear HSH
  have HSH := HSH_
  clear HSH_
  unfold maxLen at hm2
  have HRK : Hid (∀ w', Below w31.heap.size w31 w' → w'.cell? ⟨b2, o2, none⟩ = some (.int .i64 1) ∧ w'.cell? ⟨b2, o2 + 1, none⟩ = some (.int .i64 0)) := fun w' h => ⟨(h.cell (p := ⟨b2, o2, none⟩) hl2).trans g0, (h.cell (p := ⟨b2, o2 + 1, none⟩) hl2).trans g1⟩
  clear g0 g1 hl2 HPL30
  clear hb HA30 HB30
  go_wp2_with fail
  refine (of_13 _ (HT.out.below HB31.out (Nat.le_refl _))).mono ?_
  rintro e w32 ⟨rfl, hb⟩
  have HB32 := Lib.hid (HB31.out.trans (hb.mono HB31.out.size))
  have HA32 := Lib.hid (HA31.out.after hb (Nat.le_refl _))
  have HSH_ := Lib.hid (carry_along HSH.out hb)
  clear HSH
  have HSH := HSH_
  clear HSH_
  have HRK_ := Lib.hid (carry_along HRK.out hb)
  clear HRK
  have HRK := HRK_
  clear HRK_
  clear hb HA31 HB31
  go_wp2_with fail
  refine (of_12 _ (HT.out.below HB32.out (Nat.le_refl _))).mono ?_
  rintro e w33 ⟨rfl, hb⟩
  have HB33 := Lib.hid (HB32.out.trans (hb.mono HB32.out.size))
  have HA33 := Lib.hid (HA32.out.after hb (Nat.le_refl _))
  have HSH_ := Lib.hid (carry_along HSH.out hb)
  clear HSH
  have HSH := HSH_
  clear HSH_
  have HRK_ := Lib.hid (carry_along HRK.out hb)
  clear HRK
  have HRK := HRK_
  clear HRK_
  clear hb HA32 HB32
  go_wp2_with fail
  refine (of_13 _ (HT.out.below HB33.out (Nat.le_refl _))).mono ?_
  rintro e w34 ⟨rfl, hb⟩
  have HB34 := Lib.hid (HB33.out.trans (hb.mono HB33.out.size))
  have HA34 := Lib.hid (HA33.out.after hb (Nat.le_refl _))
  have HSH_ := Lib.hid (carry_along HSH.out hb)
  clear HSH
  have HSH := HSH_
  clear HSH_
  have HRK_ := Lib.hid (carry_along HRK.out hb)
  clear HRK
  have HRK := HRK_
  clear HRK_
  clear hb HA33 HB33
  obtain ⟨w35, hw35⟩ : ∃ w9, w34.alloc (.cells #[.string ⟨#[49]⟩, .string ⟨#[51]⟩, .string ⟨#[49]⟩, .string ⟨#[50]⟩, .string ⟨#[49]⟩, .string ⟨#[51]⟩] 24) = w9 := ⟨_, rfl⟩
  have hb : Below w34.heap.size w34 w35 := by rw [← hw35]; exact (Below.refl _ w34).alloc (Nat.le_refl _) _
  have HPL35 : Hid (PL w35 (.slice (some ⟨w34.heap.size, 0, none⟩) 3 3) [(⟨#[49]⟩, ⟨#[51]⟩), (⟨#[49]⟩, ⟨#[50]⟩), (⟨#[49]⟩, ⟨#[51]⟩)]) := by rw [← hw35]; exact pl_three _ ⟨#[49]⟩ ⟨#[51]⟩ ⟨#[49]⟩ ⟨#[50]⟩ ⟨#[49]⟩ ⟨#[51]⟩
  have HB35 := Lib.hid (HB34.out.trans (hb.mono HB34.out.size))
  have HA35 := Lib.hid (HA34.out.after hb (Nat.le_refl _))
  have HSH_ := Lib.hid (carry_along HSH.out hb)
  clear HSH
  have HSH := HSH_
  clear HSH_
  have HRK_ := Lib.hid (carry_along HRK.out hb)
  clear HRK
  have HRK := HRK_
  clear HRK_
  go_wp2_with fail
  try rw [hw35]
  clear hb hw35 HA34 HB34
  go_wp2_with fail
  refine (of_56 _ (HT.out.below HB35.out (Nat.le_refl _))).mono ?_
  rintro e w36 ⟨rfl, hb⟩
  have HB36 := Lib.hid (HB35.out.trans (hb.mono HB35.out.size))
  have HA36 := Lib.hid (HA35.out.after hb (Nat.le_refl _))
  have HSH_ := Lib.hid (carry_along HSH.out hb)
  clear HSH
  have HSH := HSH_
  clear HSH_
  have HRK_ := Lib.hid (carry_along HRK.out hb)
  clear HRK
  have HRK := HRK_
  clear HRK_
  have HPLx := Lib.hid (HPL35.out.after hb (Nat.le_refl _))
  clear HPL35
  clear hb HA35 HB35
  go_wp2_with fail
  refine (cover_ex HPLx.out (HT.out.below HB36.out (Nat.le_refl _))).mono ?_
  rintro e w37 ⟨rfl, hb⟩
  have HB37 := Lib.hid (HB36.out.trans (hb.mono HB36.out.size))
  have HA37 := Lib.hid (HA36.out.after hb (Nat.le_refl _))
  have HSH_ := Lib.hid (carry_along HSH.out hb)
  clear HSH
  have HSH := HSH_
  clear HSH_
  have HRK_ := Lib.hid (carry_along HRK.out hb)
  clear HRK
  have HRK := HRK_
  clear HRK_
  clear hb HA36 HB36
  clear HPLx
  go_wp2_with (at_make; refine wpList_make_full _ rfl _ _ 34 rfl w.heap.size 24 i0 (.agg #[.string ⟨#[]⟩, .string ⟨#[]⟩]) 2 Tryz.underlying34 hi hz0 hz1 _ _ _ _ 513 rfl rfl (by rfl) (by rfl) ?b2 ?b3 HB37.out.size ?_)
  case b2 => rw [hz2]; decide
  case b3 => unfold maxLen; decide
  intro w38 hown hgrow
  have hb := (Below.refl w37.heap.size w37).grown hgrow (Nat.le_refl _) (fun k h => by cases h)
  have HM513 := Lib.hid (made_pl hown)
  have HB38 := Lib.hid (HB37.out.trans (hb.mono HB37.out.size))
  have HA38 := Lib.hid (HA37.out.after hb (Nat.le_refl _))
  have HSH_ := Lib.hid (carry_along HSH.out hb)
  clear HSH
  have HSH := HSH_
  clear HSH_
  have HRK_ := Lib.hid (carry_along HRK.out hb)
  clear HRK
  have HRK := HRK_
  clear HRK_
  clear hb hown hgrow HA37 HB37
  go_wp2_with fail
  refine (sum_long HM513.out (by rw [List.length_replicate]; decide) (HT.out.below HB38.out (Nat.le_refl _))).mono ?_
  rintro e w39 ⟨rfl, hb⟩
  have hbp := hb.alloc hb.size (pObj ⟨#[]⟩ ⟨#[]⟩)
  have HB39 : Hid (Below w.heap.size w (w39.alloc (pObj ⟨#[]⟩ ⟨#[]⟩))) := HB38.out.trans (hbp.mono HB38.out.size)
  have HA39 := Lib.hid ((HA38.out.after hb (Nat.le_refl _)).push ⟨#[]⟩ ⟨#[]⟩)
  have HSH_ := Lib.hid (carry_along HSH.out hbp)
  clear HSH
  have HSH := HSH_
  clear HSH_
  have HRK_ := Lib.hid (carry_along HRK.out hbp)
  clear HRK
  have HRK := HRK_
  clear HRK_
  clear hb hbp HA38 HB38
  clear HM513
  go_wp2_with fail
  refine (share_none (HT.out.below HB39.out (Nat.le_refl _))).mono ?_
  rintro e w40 ⟨rfl, hb⟩
  have HB40 := Lib.hid (HB39.out.trans (hb.mono HB39.out.size))
  have HA40 := Lib.hid (HA39.out.after hb (Nat.le_refl _))
  have HSH_ := Lib.hid (carry_along HSH.out hb)
  clear HSH
  have HSH := HSH_
  clear HSH_
  have HRK_ := Lib.hid (carry_along HRK.out hb)
  clear HRK
  have HRK := HRK_
  clear HRK_
  clear hb HA39 HB39
  go_wp2_with fail
  obtain ⟨W2, hW2⟩ : ∃ W, w40 = W := ⟨_, rfl⟩
  have HBW2 : Hid (Below w.heap.size w W2) := by rw [← hW2]; exact HB40.out
  have hS : ∀ w', Below W2.heap.size W2 w' → w'.cell? ⟨w21.heap.size, 0, none⟩ = some (.string ⟨#[55]⟩) ∧ w'.cell? ⟨w21.heap.size, 1, none⟩ = some (.string ⟨#[49, 48]⟩) ∧ w'.cell? ⟨b1, o1, none⟩ = some (.string ⟨#[49]⟩) ∧ w'.cell? ⟨b1, o1 + 1, none⟩ = some (.string ⟨#[54]⟩) ∧ w'.cell? ⟨b1, o1 + 4, none⟩ = some (.string ⟨#[49]⟩) ∧ w'.cell? ⟨b1, o1 + 5, none⟩ = some (.string ⟨#[50]⟩) ∧ w'.cell? ⟨b2, o2, none⟩ = some (.int .i64 1) ∧ w'.cell? ⟨b2, o2 + 1, none⟩ = some (.int .i64 0) := by
    rw [← hW2]
    intro w' hb
    have hA := HA40.out.after hb (Nat.le_refl _)
    obtain ⟨x1, x2, x3, x4⟩ := HSH.out w' hb
    obtain ⟨y1, y2⟩ := HRK.out w' hb
    exact ⟨hA.c0 1 rfl, hA.c1 1 rfl, x1, x2, x3, x4, y1, y2⟩
  have HS := Lib.hid hS
  obtain ⟨k0, k1, k2, k3, k4, k5, k6, k7⟩ := hS W2 (Below.refl _ W2)
  clear hS
  rw [hW2]
  clear hW2 HA40 HB40
  go_region_held3
    (fun w' => w'.cell? ⟨w21.heap.size, 0, none⟩ = some (.string ⟨#[55]⟩) ∧ w'.cell? ⟨w21.heap.size, 1, none⟩ = some (.string ⟨#[49, 48]⟩) ∧ w'.cell? ⟨b1, o1, none⟩ = some (.string ⟨#[49]⟩) ∧ w'.cell? ⟨b1, o1 + 1, none⟩ = some (.string ⟨#[54]⟩) ∧ w'.cell? ⟨b1, o1 + 4, none⟩ = some (.string ⟨#[49]⟩) ∧ w'.cell? ⟨b1, o1 + 5, none⟩ = some (.string ⟨#[50]⟩) ∧ w'.cell? ⟨b2, o2, none⟩ = some (.int .i64 1) ∧ w'.cell? ⟨b2, o2 + 1, none⟩ = some (.int .i64 0))
    (first | exact ⟨k0, k1, k2, k3, k4, k5, k6, k7⟩ | exact HK0.out | exact HK1.out | exact HK2.out)
    (first
      | (go_at_call_of 30 (Value.int .i64 7); refine (of_710 _ (HT.out.below (HBW2.out.trans (((Below.refl W2.heap.size W2).drew).mono HBW2.out.size)) (Nat.le_refl _))).mono ?_; rintro e v0 ⟨rfl, hb⟩; have HX0 : Hid (Below W2.heap.size W2 v0) := ((Below.refl W2.heap.size W2).drew).trans (hb.mono ((Below.refl W2.heap.size W2).drew).size); have HK0 := Lib.hid (HS.out v0 HX0.out); clear hb)
      | (go_at_call_of 30 (Value.int .i64 6); refine (of_16 _ (HT.out.below (HBW2.out.trans (HX0.out.mono HBW2.out.size)) (Nat.le_refl _))).mono ?_; rintro e v1 ⟨rfl, hb⟩; have HX1 : Hid (Below W2.heap.size W2 v1) := HX0.out.trans (hb.mono HX0.out.size); have HK1 := Lib.hid (HS.out v1 HX1.out); clear hb)
      | (go_at_call 30; refine (of_12 _ (HT.out.below (HBW2.out.trans (HX1.out.mono HBW2.out.size)) (Nat.le_refl _))).mono ?_; rintro e v2 ⟨rfl, hb⟩; have HX2 : Hid (Below W2.heap.size W2 v2) := HX1.out.trans (hb.mono HX1.out.size); have HK2 := Lib.hid (HS.out v2 HX2.out); clear hb))
  clear k0 k1 k2 k3 k4 k5 k6 k7
  have HB41 : Hid (Below w.heap.size w v2) := HBW2.out.trans (HX2.out.mono HBW2.out.size)
  have HA41 := Lib.hid (Ats.nil v2)
  clear HBW2 HS HK0 HK1 HK2
  clear HX0 HX1 HX2
  clear HSH HRK
  go_wp2_with fail
  refine (alive_any _ (HT.out.below HB41.out (Nat.le_refl _))).mono ?_
  rintro e w42 ⟨rfl, hb⟩
  have HE := Lib.hid (HB41.out.trans (hb.mono HB41.out.size))
  clear hb
  go_wp2
  go_ret
  exact ⟨rfl, HE.out⟩
end Go.Proofs.YthbpadjhlkdpeaaGreatDoor
