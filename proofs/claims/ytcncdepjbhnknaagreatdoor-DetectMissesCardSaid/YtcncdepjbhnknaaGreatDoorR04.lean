/- The parts RTwo2, Not of a proof, put together by program (merge6.py). -/
import Derived.Test.YtcncdepjbhnknaaGreatDoorR03
import Derived.Test.YtcncdepjbhnknaaGreatDoorH12
set_option linter.unusedVariables false
set_option linter.unusedSimpArgs false
namespace Go.Proofs.YtcncdepjbhnknaaGreatDoor
open Go.RowKit Go.Shelf
attribute [local go_sem ↓] Go.wp_at_zero Go.wp_at_succ
set_option maxRecDepth 100000 in
set_option maxHeartbeats 4000000 in
theorem rsub0 (s t u v : ByteArray) (w : World) (hs : s.size ≤ 1000000) (ht : t.size ≤ 1000000) (hu : u.size ≤ 1000000) (hv : v.size ≤ 1000000) :
    Calls Tryz.prog 82 #[.agg #[.string s, .string t], .agg #[.string u, .string v]] w (PartPost (Bi s t u v (SubR (decVal s.data.toList) (decVal t.data.toList) (decVal u.data.toList) (decVal v.data.toList))) w) := by
  cases hq : (okP s t && okP u v)
  · skip
    have HQ : Hid (bothE s t u v = 2) := bothE_no hq
    have HK := Lib.hid hq
    clear hq
    go_enter Tryz.func82, Tryz.ntmps82
    go_wp2_with fail
    obtain ⟨w1, hw1⟩ : ∃ w1, ((w.alloc (.cells #[.string s, .string t] 46)).alloc (.cells #[.string u, .string v] 46)).alloc (.cells #[.string ⟨#[]⟩, .string ⟨#[]⟩] 46) = w1 := ⟨_, rfl⟩
    rw [hw1]
    have HX1 : Hid (Boxes w.heap.size [.cells #[.string s, .string t] 46, .cells #[.string u, .string v] 46, .cells #[.string ⟨#[]⟩, .string ⟨#[]⟩] 46] w1) := by rw [← hw1]; exact Boxes.three w _ _ _
    have HB1 : Hid (Below w.heap.size w w1) := by rw [← hw1]; exact (((Below.refl _ w).alloc (Nat.le_refl _) _).alloc (by simp) _).alloc (by simp <;> omega) _
    clear hw1
    refine (rboth_any s t u v _ hs ht hu hv).mono ?_
    rintro e w2 ⟨rfl, hb2⟩
    rw [HQ.out]
    have HX2 := Lib.hid (HX1.out.below hb2 HX1.out.lt)
    have HB2 := Lib.hid (HB1.out.trans (hb2.mono HB1.out.size))
    clear hb2
    have r0 := HX2.out.cell 2 0 (b := w.heap.size + 1 + 1) rfl rfl rfl
    have r1 := HX2.out.cell 2 1 (b := w.heap.size + 1 + 1) rfl rfl rfl
    have f0 := HX2.out.free 2 0 (b := w.heap.size + 1 + 1) rfl rfl
    have f1 := HX2.out.free 2 1 (b := w.heap.size + 1 + 1) rfl rfl
    go_wp2
    have q := two_put_cells (HX2.out.block 2 (b := w.heap.size + 1 + 1) rfl rfl) (.string ⟨#[]⟩) (.string ⟨#[]⟩)
    have HBQ := Lib.hid (two_put_below HB2.out (b := w.heap.size + 1 + 1) (by omega) (.string ⟨#[]⟩) (.string ⟨#[]⟩))
    refine bodyPost_ret (v := .tuple #[.agg #[.string ⟨#[]⟩, .string ⟨#[]⟩], .int .i64 2]) (by simp [results, Tryz.f82, go_sem, q.1, q.2]) rfl ⟨_, _, _, rfl, .inl ⟨HK.out, rfl, rfl, rfl⟩, HBQ.out⟩
  · skip
    have HQ : Hid (bothE s t u v = 0) := bothE_yes hq
    have HK := Lib.hid hq
    have hq2 := hq
    rw [Bool.and_eq_true] at hq2
    have g1 := rok hq2.1
    have g2 := rok hq2.2
    obtain ⟨n1, hn1⟩ : ∃ n, decVal s.data.toList = n := ⟨_, rfl⟩
    obtain ⟨d1, hd1⟩ : ∃ n, decVal t.data.toList = n := ⟨_, rfl⟩
    obtain ⟨n2, hn2⟩ : ∃ n, decVal u.data.toList = n := ⟨_, rfl⟩
    obtain ⟨d2, hd2⟩ : ∃ n, decVal v.data.toList = n := ⟨_, rfl⟩
    rw [hn1, hd1] at g1
    rw [hn2, hd2] at g2
    have HPS : Hid (∀ W, Calls Tryz.prog 119 #[.string s] W (PPost W n1)) := fun W => by rw [← hn1]; exact rparts_any s hs g1.ds W
    have HPT : Hid (∀ W, Calls Tryz.prog 119 #[.string t] W (PPost W d1)) := fun W => by rw [← hd1]; exact rparts_any t ht g1.dt W
    have HPU : Hid (∀ W, Calls Tryz.prog 119 #[.string u] W (PPost W n2)) := fun W => by rw [← hn2]; exact rparts_any u hu g2.ds W
    have HPV : Hid (∀ W, Calls Tryz.prog 119 #[.string v] W (PPost W d2)) := fun W => by rw [← hd2]; exact rparts_any v hv g2.dt W
    have l1 := g1.ls
    have l2 := g1.lt
    have l3 := g2.ls
    have l4 := g2.lt
    have z1 := g1.pos
    have z2 := g2.pos
    rw [hn1, hd1, hn2, hd2]
    have HN := Lib.hid (And.intro hn1 (And.intro hd1 (And.intro hn2 hd2)))
    clear hq hq2 g1 g2 hn1 hd1 hn2 hd2
    have M1 : Hid ((limbs 10000 (n1 * d2)).length ≤ 300) := Nat.le_trans (rmul_lims l1 l4) (by omega)
    have M2 : Hid ((limbs 10000 (n2 * d1)).length ≤ 300) := Nat.le_trans (rmul_lims l3 l2) (by omega)
    have HL2 : Hid ((limbs 10000 (d1 * d2)).length ≤ 100000) := Nat.le_trans (rmul_lims l2 l4) (by omega)
    have HD0 : Hid (0 < d1 * d2) := Nat.mul_pos z1 z2
    have HL1 : Hid ((limbs 10000 (n1 * d2 - n2 * d1)).length ≤ 100000) := Nat.le_trans (limbs_length_mono (by omega) (Nat.sub_le _ _)) (by have := M1.out; omega)
    go_enter Tryz.func82, Tryz.ntmps82
    go_wp2_with fail
    obtain ⟨w1, hw1⟩ : ∃ w1, ((w.alloc (.cells #[.string s, .string t] 46)).alloc (.cells #[.string u, .string v] 46)).alloc (.cells #[.string ⟨#[]⟩, .string ⟨#[]⟩] 46) = w1 := ⟨_, rfl⟩
    rw [hw1]
    have HX1 : Hid (Boxes w.heap.size [.cells #[.string s, .string t] 46, .cells #[.string u, .string v] 46, .cells #[.string ⟨#[]⟩, .string ⟨#[]⟩] 46] w1) := by rw [← hw1]; exact Boxes.three w _ _ _
    have HB1 : Hid (Below w.heap.size w w1) := by rw [← hw1]; exact (((Below.refl _ w).alloc (Nat.le_refl _) _).alloc (by simp) _).alloc (by simp <;> omega) _
    clear hw1
    refine (rboth_any s t u v _ hs ht hu hv).mono ?_
    rintro e w2 ⟨rfl, hb2⟩
    rw [HQ.out]
    have HX2 := Lib.hid (HX1.out.below hb2 HX1.out.lt)
    have HB2 := Lib.hid (HB1.out.trans (hb2.mono HB1.out.size))
    clear hb2
    have ka2 := HX2.out.cell 0 0 (b := w.heap.size) rfl rfl rfl
    have kb2 := HX2.out.cell 0 1 (b := w.heap.size) rfl rfl rfl
    have kc2 := HX2.out.cell 1 0 (b := w.heap.size + 1) rfl rfl rfl
    have kd2 := HX2.out.cell 1 1 (b := w.heap.size + 1) rfl rfl rfl
    go_wp2_with fail
    go_region_held3
      (fun w' => w'.cell? ⟨w.heap.size, 0, none⟩ = some (.string s) ∧ w'.cell? ⟨w.heap.size, 1, none⟩ = some (.string t) ∧ w'.cell? ⟨w.heap.size + 1, 0, none⟩ = some (.string u) ∧ w'.cell? ⟨w.heap.size + 1, 1, none⟩ = some (.string v))
      (first | exact ⟨ka1, kb1, kc1, kd1⟩ | exact ⟨ka2, kb2, kc2, kd2⟩ | exact ⟨ka3, kb3, kc3, kd3⟩ | exact ⟨ka4, kb4, kc4, kd4⟩ | exact ⟨ka5, kb5, kc5, kd5⟩ | exact ⟨ka6, kb6, kc6, kd6⟩ | exact ⟨ka7, kb7, kc7, kd7⟩ | exact ⟨ka8, kb8, kc8, kd8⟩ | exact ⟨(other_put _ _ _ (by omega) _).trans ka9, (other_put _ _ _ (by omega) _).trans kb9, (other_put _ _ _ (by omega) _).trans kc9, (other_put _ _ _ (by omega) _).trans kd9⟩ | exact ⟨ka9, kb9, kc9, kd9⟩)
      (first
        | (go_at_call_of 119 (Value.string s); refine (HPS.out _).mono ?_; rintro e w3 ⟨va, rfl, hv, hb⟩; obtain ⟨pa, ma, ca, rfl⟩ := hv.form; have NA := Lib.hid hv;  have HX3 := Lib.hid (HX2.out.drew.below hb HX2.out.lt); have HB3 : Hid (Below w.heap.size w w3) := HB2.out.drew.trans (hb.mono HB2.out.drew.size); have ka3 := HX3.out.cell 0 0 (b := w.heap.size) rfl rfl rfl; have kb3 := HX3.out.cell 0 1 (b := w.heap.size) rfl rfl rfl; have kc3 := HX3.out.cell 1 0 (b := w.heap.size + 1) rfl rfl rfl; have kd3 := HX3.out.cell 1 1 (b := w.heap.size + 1) rfl rfl rfl; clear hv hb)
        | (go_at_call_of 119 (Value.string v); refine (HPV.out _).mono ?_; rintro e w4 ⟨vb, rfl, hv, hb⟩; obtain ⟨pb, mb, cb, rfl⟩ := hv.form; have NB := Lib.hid hv; have NA4 := Lib.hid (NA.out.after hb (Nat.le_refl _)); have HX4 := Lib.hid (HX3.out.below hb HX3.out.lt); have HB4 : Hid (Below w.heap.size w w4) := HB3.out.trans (hb.mono HB3.out.size); have ka4 := HX4.out.cell 0 0 (b := w.heap.size) rfl rfl rfl; have kb4 := HX4.out.cell 0 1 (b := w.heap.size) rfl rfl rfl; have kc4 := HX4.out.cell 1 0 (b := w.heap.size + 1) rfl rfl rfl; have kd4 := HX4.out.cell 1 1 (b := w.heap.size + 1) rfl rfl rfl; clear hv hb)
        | (go_at_call_of 118 (Value.slice pa ma ca); refine (rtimes_any NA4.out NB.out (by omega) (by omega)).mono ?_; rintro e w5 ⟨vc, rfl, hv, hb⟩; obtain ⟨pc, mc, cc, rfl⟩ := hv.form; have NC := Lib.hid hv;  have HX5 := Lib.hid (HX4.out.below hb HX4.out.lt); have HB5 : Hid (Below w.heap.size w w5) := HB4.out.trans (hb.mono HB4.out.size); have ka5 := HX5.out.cell 0 0 (b := w.heap.size) rfl rfl rfl; have kb5 := HX5.out.cell 0 1 (b := w.heap.size) rfl rfl rfl; have kc5 := HX5.out.cell 1 0 (b := w.heap.size + 1) rfl rfl rfl; have kd5 := HX5.out.cell 1 1 (b := w.heap.size + 1) rfl rfl rfl; clear hv hb)
      )
    go_wp2_with fail
    go_region_held3
      (fun w' => w'.cell? ⟨w.heap.size, 0, none⟩ = some (.string s) ∧ w'.cell? ⟨w.heap.size, 1, none⟩ = some (.string t) ∧ w'.cell? ⟨w.heap.size + 1, 0, none⟩ = some (.string u) ∧ w'.cell? ⟨w.heap.size + 1, 1, none⟩ = some (.string v))
      (first | exact ⟨ka1, kb1, kc1, kd1⟩ | exact ⟨ka2, kb2, kc2, kd2⟩ | exact ⟨ka3, kb3, kc3, kd3⟩ | exact ⟨ka4, kb4, kc4, kd4⟩ | exact ⟨ka5, kb5, kc5, kd5⟩ | exact ⟨ka6, kb6, kc6, kd6⟩ | exact ⟨ka7, kb7, kc7, kd7⟩ | exact ⟨ka8, kb8, kc8, kd8⟩ | exact ⟨(other_put _ _ _ (by omega) _).trans ka9, (other_put _ _ _ (by omega) _).trans kb9, (other_put _ _ _ (by omega) _).trans kc9, (other_put _ _ _ (by omega) _).trans kd9⟩ | exact ⟨ka9, kb9, kc9, kd9⟩)
      (first
        | (go_at_call_of 119 (Value.string u); refine (HPU.out _).mono ?_; rintro e w6 ⟨vd, rfl, hv, hb⟩; obtain ⟨pd, md, cd, rfl⟩ := hv.form; have ND := Lib.hid hv; have NC6 := Lib.hid (PNum.after (w := w5.drew) NC.out hb (Nat.le_refl _)); have HX6 := Lib.hid (HX5.out.drew.below hb HX5.out.lt); have HB6 : Hid (Below w.heap.size w w6) := HB5.out.drew.trans (hb.mono HB5.out.drew.size); have ka6 := HX6.out.cell 0 0 (b := w.heap.size) rfl rfl rfl; have kb6 := HX6.out.cell 0 1 (b := w.heap.size) rfl rfl rfl; have kc6 := HX6.out.cell 1 0 (b := w.heap.size + 1) rfl rfl rfl; have kd6 := HX6.out.cell 1 1 (b := w.heap.size + 1) rfl rfl rfl; clear hv hb)
        | (go_at_call_of 119 (Value.string t); refine (HPT.out _).mono ?_; rintro e w7 ⟨ve, rfl, hv, hb⟩; obtain ⟨pe, me, ce, rfl⟩ := hv.form; have NE := Lib.hid hv; have NC7 := Lib.hid (NC6.out.after hb (Nat.le_refl _)); have ND7 := Lib.hid (ND.out.after hb (Nat.le_refl _)); have HX7 := Lib.hid (HX6.out.below hb HX6.out.lt); have HB7 : Hid (Below w.heap.size w w7) := HB6.out.trans (hb.mono HB6.out.size); have ka7 := HX7.out.cell 0 0 (b := w.heap.size) rfl rfl rfl; have kb7 := HX7.out.cell 0 1 (b := w.heap.size) rfl rfl rfl; have kc7 := HX7.out.cell 1 0 (b := w.heap.size + 1) rfl rfl rfl; have kd7 := HX7.out.cell 1 1 (b := w.heap.size + 1) rfl rfl rfl; clear hv hb)
        | (go_at_call_of 118 (Value.slice pd md cd); refine (rtimes_any ND7.out NE.out (by omega) (by omega)).mono ?_; rintro e w8 ⟨vf, rfl, hv, hb⟩; obtain ⟨pf, mf, cf, rfl⟩ := hv.form; have NF := Lib.hid hv; have NC8 := Lib.hid (NC7.out.after hb (Nat.le_refl _)); have HX8 := Lib.hid (HX7.out.below hb HX7.out.lt); have HB8 : Hid (Below w.heap.size w w8) := HB7.out.trans (hb.mono HB7.out.size); have ka8 := HX8.out.cell 0 0 (b := w.heap.size) rfl rfl rfl; have kb8 := HX8.out.cell 0 1 (b := w.heap.size) rfl rfl rfl; have kc8 := HX8.out.cell 1 0 (b := w.heap.size + 1) rfl rfl rfl; have kd8 := HX8.out.cell 1 1 (b := w.heap.size + 1) rfl rfl rfl; clear hv hb)
      )
    go_wp2_with fail
    refine (order_any NC8.out NF.out (by have := M1.out; omega) (by have := M2.out; omega)).mono ?_
    rintro e w15 ⟨rfl, hb⟩
    have HX15 := Lib.hid (HX8.out.below hb HX8.out.lt)
    have HB15 : Hid (Below w.heap.size w w15) := HB8.out.trans (hb.mono HB8.out.size)
    have NC15 := Lib.hid (NC8.out.after hb (Nat.le_refl _))
    have NF15 := Lib.hid (NF.out.after hb (Nat.le_refl _))
    clear hb
    rcases Nat.lt_or_ge (n1 * d2) (n2 * d1) with hlt | hge
    · have hsg : sgnN (n1 * d2) (n2 * d1) < 0 := sgnN_neg.2 hlt
      have HLT := Lib.hid hlt
      have r0 := HX15.out.cell 2 0 (b := w.heap.size + 1 + 1) rfl rfl rfl
      have r1 := HX15.out.cell 2 1 (b := w.heap.size + 1 + 1) rfl rfl rfl
      have f0 := HX15.out.free 2 0 (b := w.heap.size + 1 + 1) rfl rfl
      have f1 := HX15.out.free 2 1 (b := w.heap.size + 1 + 1) rfl rfl
      clear hlt
      go_wp2
      have q := two_put_cells (HX15.out.block 2 (b := w.heap.size + 1 + 1) rfl rfl) (.string ⟨#[]⟩) (.string ⟨#[]⟩)
      have HBQ := Lib.hid (two_put_below HB15.out (b := w.heap.size + 1 + 1) (by omega) (.string ⟨#[]⟩) (.string ⟨#[]⟩))
      refine bodyPost_ret (v := .tuple #[.agg #[.string ⟨#[]⟩, .string ⟨#[]⟩], .int .i64 11]) (by simp [results, Tryz.f82, go_sem, q.1, q.2]) rfl ⟨_, _, _, rfl, .inr ⟨HK.out, .inl ⟨HLT.out, rfl, rfl, rfl⟩⟩, HBQ.out⟩
    · have hsg : ¬ sgnN (n1 * d2) (n2 * d1) < 0 := fun h => by have := sgnN_neg.1 h; omega
      have HGE := Lib.hid hge
      clear hge
      have ka2 := HX15.out.cell 0 0 (b := w.heap.size) rfl rfl rfl
      have kb2 := HX15.out.cell 0 1 (b := w.heap.size) rfl rfl rfl
      have kc2 := HX15.out.cell 1 0 (b := w.heap.size + 1) rfl rfl rfl
      have kd2 := HX15.out.cell 1 1 (b := w.heap.size + 1) rfl rfl rfl
      go_wp2_with fail
      go_region_held3
        (fun w' => w'.cell? ⟨w.heap.size, 0, none⟩ = some (.string s) ∧ w'.cell? ⟨w.heap.size, 1, none⟩ = some (.string t) ∧ w'.cell? ⟨w.heap.size + 1, 0, none⟩ = some (.string u) ∧ w'.cell? ⟨w.heap.size + 1, 1, none⟩ = some (.string v))
        (first | exact ⟨ka1, kb1, kc1, kd1⟩ | exact ⟨ka2, kb2, kc2, kd2⟩ | exact ⟨ka3, kb3, kc3, kd3⟩ | exact ⟨ka4, kb4, kc4, kd4⟩ | exact ⟨ka5, kb5, kc5, kd5⟩ | exact ⟨ka6, kb6, kc6, kd6⟩ | exact ⟨ka7, kb7, kc7, kd7⟩ | exact ⟨ka8, kb8, kc8, kd8⟩ | exact ⟨(other_put _ _ _ (by omega) _).trans ka9, (other_put _ _ _ (by omega) _).trans kb9, (other_put _ _ _ (by omega) _).trans kc9, (other_put _ _ _ (by omega) _).trans kd9⟩ | exact ⟨ka9, kb9, kc9, kd9⟩)
        (first
          | (go_at_call_of 122 (Value.slice pc mc cc); refine (rminus_any (PNum.after (w' := w15.drew) NC15.out (Below.refl w15.heap.size w15).drew (Nat.le_refl _)) (PNum.after (w' := w15.drew) NF15.out (Below.refl w15.heap.size w15).drew (Nat.le_refl _)) HGE.out (by have := M1.out; omega)).mono ?_; rintro e w11 ⟨vg, rfl, hv, hb⟩; obtain ⟨pg, mg, cg, rfl⟩ := hv.form; have NG := Lib.hid hv;  have HX11 := Lib.hid (HX15.out.drew.below hb HX15.out.lt); have HB11 : Hid (Below w.heap.size w w11) := HB15.out.drew.trans (hb.mono HB15.out.drew.size); have ka3 := HX11.out.cell 0 0 (b := w.heap.size) rfl rfl rfl; have kb3 := HX11.out.cell 0 1 (b := w.heap.size) rfl rfl rfl; have kc3 := HX11.out.cell 1 0 (b := w.heap.size + 1) rfl rfl rfl; have kd3 := HX11.out.cell 1 1 (b := w.heap.size + 1) rfl rfl rfl; clear hv hb)
          | (go_at_call_of 119 (Value.string t); refine (HPT.out _).mono ?_; rintro e w12 ⟨vh, rfl, hv, hb⟩; obtain ⟨ph, mh, ch, rfl⟩ := hv.form; have NH := Lib.hid hv; have NG12 := Lib.hid (NG.out.after hb (Nat.le_refl _)); have HX12 := Lib.hid (HX11.out.below hb HX11.out.lt); have HB12 : Hid (Below w.heap.size w w12) := HB11.out.trans (hb.mono HB11.out.size); have ka4 := HX12.out.cell 0 0 (b := w.heap.size) rfl rfl rfl; have kb4 := HX12.out.cell 0 1 (b := w.heap.size) rfl rfl rfl; have kc4 := HX12.out.cell 1 0 (b := w.heap.size + 1) rfl rfl rfl; have kd4 := HX12.out.cell 1 1 (b := w.heap.size + 1) rfl rfl rfl; clear hv hb)
          | (go_at_call_of 119 (Value.string v); refine (HPV.out _).mono ?_; rintro e w13 ⟨vi, rfl, hv, hb⟩; obtain ⟨pi, mi, ci, rfl⟩ := hv.form; have NI := Lib.hid hv; have NG13 := Lib.hid (NG12.out.after hb (Nat.le_refl _)); have NH13 := Lib.hid (NH.out.after hb (Nat.le_refl _)); have HX13 := Lib.hid (HX12.out.below hb HX12.out.lt); have HB13 : Hid (Below w.heap.size w w13) := HB12.out.trans (hb.mono HB12.out.size); have ka5 := HX13.out.cell 0 0 (b := w.heap.size) rfl rfl rfl; have kb5 := HX13.out.cell 0 1 (b := w.heap.size) rfl rfl rfl; have kc5 := HX13.out.cell 1 0 (b := w.heap.size + 1) rfl rfl rfl; have kd5 := HX13.out.cell 1 1 (b := w.heap.size + 1) rfl rfl rfl; clear hv hb)
          | (go_at_call_of 118 (Value.slice ph mh ch); refine (rtimes_any NH13.out NI.out (by omega) (by omega)).mono ?_; rintro e w14 ⟨vj, rfl, hv, hb⟩; obtain ⟨pj, mj, cj, rfl⟩ := hv.form; have NJ := Lib.hid hv; have NG14 := Lib.hid (NG13.out.after hb (Nat.le_refl _)); have HX14 := Lib.hid (HX13.out.below hb HX13.out.lt); have HB14 : Hid (Below w.heap.size w w14) := HB13.out.trans (hb.mono HB13.out.size); have ka6 := HX14.out.cell 0 0 (b := w.heap.size) rfl rfl rfl; have kb6 := HX14.out.cell 0 1 (b := w.heap.size) rfl rfl rfl; have kc6 := HX14.out.cell 1 0 (b := w.heap.size + 1) rfl rfl rfl; have kd6 := HX14.out.cell 1 1 (b := w.heap.size + 1) rfl rfl rfl; clear hv hb)
          | (go_at_call 117; refine (made_any NG14.out NJ.out HL1.out HL2.out HD0.out).mono ?_; rintro e w9 ⟨x, y, n, rfl, hR, hb9⟩; have HR := Lib.hid hR; have HX9 := Lib.hid (HX14.out.below hb9 HX14.out.lt); have HB9 : Hid (Below w.heap.size w w9) := HB14.out.trans (hb9.mono HB14.out.size); have ka9 := HX9.out.cell 0 0 (b := w.heap.size) rfl rfl rfl; have kb9 := HX9.out.cell 0 1 (b := w.heap.size) rfl rfl rfl; have kc9 := HX9.out.cell 1 0 (b := w.heap.size + 1) rfl rfl rfl; have kd9 := HX9.out.cell 1 1 (b := w.heap.size + 1) rfl rfl rfl; have r0 := HX9.out.cell 2 0 (b := w.heap.size + 1 + 1) rfl rfl rfl; have r1 := HX9.out.cell 2 1 (b := w.heap.size + 1 + 1) rfl rfl rfl; have f0 := HX9.out.free 2 0 (b := w.heap.size + 1 + 1) rfl rfl; have f1 := HX9.out.free 2 1 (b := w.heap.size + 1 + 1) rfl rfl; clear hR hb9)
        )
      all_goals
        have q := two_put_cells (HX9.out.block 2 (b := w.heap.size + 1 + 1) rfl rfl) (.string x) (.string y)
        have HBQ := Lib.hid (two_put_below HB9.out (b := w.heap.size + 1 + 1) (by omega) (.string x) (.string y))
        obtain ⟨wz, hwz⟩ : ∃ wz, (w9.setCell ⟨w.heap.size + 1 + 1, 0, none⟩ (.string x)).setCell ⟨w.heap.size + 1 + 1, 1, none⟩ (.string y) = wz := ⟨_, rfl⟩
        rw [hwz] at q HBQ
        obtain ⟨q0, q1⟩ := q
        rw [hwz]
        clear r0 r1 f0 f1 hwz
        go_wp2
        refine bodyPost_ret (v := .tuple #[.agg #[.string x, .string y], .int .i64 n]) (by simp [results, Tryz.f82, go_sem, q0, q1]) rfl ⟨_, _, _, rfl, ?_, HBQ.out⟩
        exact .inr ⟨HK.out, .inr ⟨HGE.out, HR.out⟩⟩

set_option maxRecDepth 100000 in
set_option maxHeartbeats 4000000 in
theorem rdiv0 (s t u v : ByteArray) (w : World) (hs : s.size ≤ 1000000) (ht : t.size ≤ 1000000) (hu : u.size ≤ 1000000) (hv : v.size ≤ 1000000) :
    Calls Tryz.prog 89 #[.agg #[.string s, .string t], .agg #[.string u, .string v]] w (PartPost (Bi s t u v (DivR (decVal s.data.toList) (decVal t.data.toList) (decVal u.data.toList) (decVal v.data.toList))) w) := by
  cases hq : (okP s t && okP u v)
  · skip
    have HQ : Hid (bothE s t u v = 2) := bothE_no hq
    have HK := Lib.hid hq
    clear hq
    go_enter Tryz.func89, Tryz.ntmps89
    go_wp2_with fail
    obtain ⟨w1, hw1⟩ : ∃ w1, ((w.alloc (.cells #[.string s, .string t] 46)).alloc (.cells #[.string u, .string v] 46)).alloc (.cells #[.string ⟨#[]⟩, .string ⟨#[]⟩] 46) = w1 := ⟨_, rfl⟩
    rw [hw1]
    have HX1 : Hid (Boxes w.heap.size [.cells #[.string s, .string t] 46, .cells #[.string u, .string v] 46, .cells #[.string ⟨#[]⟩, .string ⟨#[]⟩] 46] w1) := by rw [← hw1]; exact Boxes.three w _ _ _
    have HB1 : Hid (Below w.heap.size w w1) := by rw [← hw1]; exact (((Below.refl _ w).alloc (Nat.le_refl _) _).alloc (by simp) _).alloc (by simp <;> omega) _
    clear hw1
    refine (rboth_any s t u v _ hs ht hu hv).mono ?_
    rintro e w2 ⟨rfl, hb2⟩
    rw [HQ.out]
    have HX2 := Lib.hid (HX1.out.below hb2 HX1.out.lt)
    have HB2 := Lib.hid (HB1.out.trans (hb2.mono HB1.out.size))
    clear hb2
    have r0 := HX2.out.cell 2 0 (b := w.heap.size + 1 + 1) rfl rfl rfl
    have r1 := HX2.out.cell 2 1 (b := w.heap.size + 1 + 1) rfl rfl rfl
    have f0 := HX2.out.free 2 0 (b := w.heap.size + 1 + 1) rfl rfl
    have f1 := HX2.out.free 2 1 (b := w.heap.size + 1 + 1) rfl rfl
    go_wp2
    have q := two_put_cells (HX2.out.block 2 (b := w.heap.size + 1 + 1) rfl rfl) (.string ⟨#[]⟩) (.string ⟨#[]⟩)
    have HBQ := Lib.hid (two_put_below HB2.out (b := w.heap.size + 1 + 1) (by omega) (.string ⟨#[]⟩) (.string ⟨#[]⟩))
    refine bodyPost_ret (v := .tuple #[.agg #[.string ⟨#[]⟩, .string ⟨#[]⟩], .int .i64 2]) (by simp [results, Tryz.f89, go_sem, q.1, q.2]) rfl ⟨_, _, _, rfl, .inl ⟨HK.out, rfl, rfl, rfl⟩, HBQ.out⟩
  · skip
    have hnu := (okP_iff.1 (Bool.and_eq_true _ _ |>.mp hq).2).1
    have HZ := Lib.hid (zero_iff hnu)
    have dl : u.toList = u.data.toList := ByteArray.toList_eq ..
    clear hnu
    have HQ : Hid (bothE s t u v = 0) := bothE_yes hq
    have HK := Lib.hid hq
    have hq2 := hq
    rw [Bool.and_eq_true] at hq2
    have g1 := rok hq2.1
    have g2 := rok hq2.2
    obtain ⟨n1, hn1⟩ : ∃ n, decVal s.data.toList = n := ⟨_, rfl⟩
    obtain ⟨d1, hd1⟩ : ∃ n, decVal t.data.toList = n := ⟨_, rfl⟩
    obtain ⟨n2, hn2⟩ : ∃ n, decVal u.data.toList = n := ⟨_, rfl⟩
    obtain ⟨d2, hd2⟩ : ∃ n, decVal v.data.toList = n := ⟨_, rfl⟩
    rw [hn1, hd1] at g1
    rw [hn2, hd2] at g2
    have HPS : Hid (∀ W, Calls Tryz.prog 119 #[.string s] W (PPost W n1)) := fun W => by rw [← hn1]; exact rparts_any s hs g1.ds W
    have HPT : Hid (∀ W, Calls Tryz.prog 119 #[.string t] W (PPost W d1)) := fun W => by rw [← hd1]; exact rparts_any t ht g1.dt W
    have HPU : Hid (∀ W, Calls Tryz.prog 119 #[.string u] W (PPost W n2)) := fun W => by rw [← hn2]; exact rparts_any u hu g2.ds W
    have HPV : Hid (∀ W, Calls Tryz.prog 119 #[.string v] W (PPost W d2)) := fun W => by rw [← hd2]; exact rparts_any v hv g2.dt W
    have l1 := g1.ls
    have l2 := g1.lt
    have l3 := g2.ls
    have l4 := g2.lt
    have z1 := g1.pos
    have z2 := g2.pos
    rw [hn1, hd1, hn2, hd2]
    have HN := Lib.hid (And.intro hn1 (And.intro hd1 (And.intro hn2 hd2)))
    clear hq hq2 g1 g2 hn1 hd1 hn2 hd2
    rw [HN.out.2.2.1] at HZ
    rcases Nat.eq_zero_or_pos n2 with h0 | h0
    · have hz : (u.toList == [48]) = true := by
        rw [dl, HZ.out.2 h0]; rfl
      have H0 := Lib.hid h0
      clear h0 dl
      go_enter Tryz.func89, Tryz.ntmps89
      go_wp2_with fail
      obtain ⟨w1, hw1⟩ : ∃ w1, ((w.alloc (.cells #[.string s, .string t] 46)).alloc (.cells #[.string u, .string v] 46)).alloc (.cells #[.string ⟨#[]⟩, .string ⟨#[]⟩] 46) = w1 := ⟨_, rfl⟩
      rw [hw1]
      have HX1 : Hid (Boxes w.heap.size [.cells #[.string s, .string t] 46, .cells #[.string u, .string v] 46, .cells #[.string ⟨#[]⟩, .string ⟨#[]⟩] 46] w1) := by rw [← hw1]; exact Boxes.three w _ _ _
      have HB1 : Hid (Below w.heap.size w w1) := by rw [← hw1]; exact (((Below.refl _ w).alloc (Nat.le_refl _) _).alloc (by simp) _).alloc (by simp <;> omega) _
      clear hw1
      refine (rboth_any s t u v _ hs ht hu hv).mono ?_
      rintro e w2 ⟨rfl, hb2⟩
      rw [HQ.out]
      have HX2 := Lib.hid (HX1.out.below hb2 HX1.out.lt)
      have HB2 := Lib.hid (HB1.out.trans (hb2.mono HB1.out.size))
      clear hb2
      have r0 := HX2.out.cell 2 0 (b := w.heap.size + 1 + 1) rfl rfl rfl
      have r1 := HX2.out.cell 2 1 (b := w.heap.size + 1 + 1) rfl rfl rfl
      have f0 := HX2.out.free 2 0 (b := w.heap.size + 1 + 1) rfl rfl
      have f1 := HX2.out.free 2 1 (b := w.heap.size + 1 + 1) rfl rfl
      have ka2 := HX2.out.cell 0 0 (b := w.heap.size) rfl rfl rfl
      have kb2 := HX2.out.cell 0 1 (b := w.heap.size) rfl rfl rfl
      have kc2 := HX2.out.cell 1 0 (b := w.heap.size + 1) rfl rfl rfl
      have kd2 := HX2.out.cell 1 1 (b := w.heap.size + 1) rfl rfl rfl
      go_wp2
      have q := two_put_cells (HX2.out.block 2 (b := w.heap.size + 1 + 1) rfl rfl) (.string ⟨#[]⟩) (.string ⟨#[]⟩)
      have HBQ := Lib.hid (two_put_below HB2.out (b := w.heap.size + 1 + 1) (by omega) (.string ⟨#[]⟩) (.string ⟨#[]⟩))
      refine bodyPost_ret (v := .tuple #[.agg #[.string ⟨#[]⟩, .string ⟨#[]⟩], .int .i64 10]) (by simp [results, Tryz.f89, go_sem, q.1, q.2]) rfl ⟨_, _, _, rfl, .inr ⟨HK.out, .inl ⟨H0.out, rfl, rfl, rfl⟩⟩, HBQ.out⟩
    have hz : (u.toList == [48]) = false := by
      rw [beq_eq_false_iff_ne, dl]
      intro hc
      have h1 : n2 = 0 := HZ.out.1 (by rw [← str_eq u, hc]; rfl)
      omega
    have HL1 : Hid ((limbs 10000 (n1 * d2)).length ≤ 100000) := Nat.le_trans (rmul_lims l1 l4) (by omega)
    have HL2 : Hid ((limbs 10000 (d1 * n2)).length ≤ 100000) := Nat.le_trans (rmul_lims l2 l3) (by omega)
    have HD0 : Hid (0 < d1 * n2) := Nat.mul_pos z1 h0
    have H0 := Lib.hid h0
    clear h0 dl
    go_enter Tryz.func89, Tryz.ntmps89
    go_wp2_with fail
    obtain ⟨w1, hw1⟩ : ∃ w1, ((w.alloc (.cells #[.string s, .string t] 46)).alloc (.cells #[.string u, .string v] 46)).alloc (.cells #[.string ⟨#[]⟩, .string ⟨#[]⟩] 46) = w1 := ⟨_, rfl⟩
    rw [hw1]
    have HX1 : Hid (Boxes w.heap.size [.cells #[.string s, .string t] 46, .cells #[.string u, .string v] 46, .cells #[.string ⟨#[]⟩, .string ⟨#[]⟩] 46] w1) := by rw [← hw1]; exact Boxes.three w _ _ _
    have HB1 : Hid (Below w.heap.size w w1) := by rw [← hw1]; exact (((Below.refl _ w).alloc (Nat.le_refl _) _).alloc (by simp) _).alloc (by simp <;> omega) _
    clear hw1
    refine (rboth_any s t u v _ hs ht hu hv).mono ?_
    rintro e w2 ⟨rfl, hb2⟩
    rw [HQ.out]
    have HX2 := Lib.hid (HX1.out.below hb2 HX1.out.lt)
    have HB2 := Lib.hid (HB1.out.trans (hb2.mono HB1.out.size))
    clear hb2
    have ka2 := HX2.out.cell 0 0 (b := w.heap.size) rfl rfl rfl
    have kb2 := HX2.out.cell 0 1 (b := w.heap.size) rfl rfl rfl
    have kc2 := HX2.out.cell 1 0 (b := w.heap.size + 1) rfl rfl rfl
    have kd2 := HX2.out.cell 1 1 (b := w.heap.size + 1) rfl rfl rfl
    go_wp2_with fail
    go_region_held3
      (fun w' => w'.cell? ⟨w.heap.size, 0, none⟩ = some (.string s) ∧ w'.cell? ⟨w.heap.size, 1, none⟩ = some (.string t) ∧ w'.cell? ⟨w.heap.size + 1, 0, none⟩ = some (.string u) ∧ w'.cell? ⟨w.heap.size + 1, 1, none⟩ = some (.string v))
      (first | exact ⟨ka1, kb1, kc1, kd1⟩ | exact ⟨ka2, kb2, kc2, kd2⟩ | exact ⟨ka3, kb3, kc3, kd3⟩ | exact ⟨ka4, kb4, kc4, kd4⟩ | exact ⟨ka5, kb5, kc5, kd5⟩ | exact ⟨ka6, kb6, kc6, kd6⟩ | exact ⟨ka7, kb7, kc7, kd7⟩ | exact ⟨ka8, kb8, kc8, kd8⟩ | exact ⟨(other_put _ _ _ (by omega) _).trans ka9, (other_put _ _ _ (by omega) _).trans kb9, (other_put _ _ _ (by omega) _).trans kc9, (other_put _ _ _ (by omega) _).trans kd9⟩ | exact ⟨ka9, kb9, kc9, kd9⟩)
      (first
        | (go_at_call_of 119 (Value.string s); refine (HPS.out _).mono ?_; rintro e w3 ⟨va, rfl, hv, hb⟩; obtain ⟨pa, ma, ca, rfl⟩ := hv.form; have NA := Lib.hid hv;  have HX3 := Lib.hid (HX2.out.drew.below hb HX2.out.lt); have HB3 : Hid (Below w.heap.size w w3) := HB2.out.drew.trans (hb.mono HB2.out.drew.size); have ka3 := HX3.out.cell 0 0 (b := w.heap.size) rfl rfl rfl; have kb3 := HX3.out.cell 0 1 (b := w.heap.size) rfl rfl rfl; have kc3 := HX3.out.cell 1 0 (b := w.heap.size + 1) rfl rfl rfl; have kd3 := HX3.out.cell 1 1 (b := w.heap.size + 1) rfl rfl rfl; clear hv hb)
        | (go_at_call_of 119 (Value.string v); refine (HPV.out _).mono ?_; rintro e w4 ⟨vb, rfl, hv, hb⟩; obtain ⟨pb, mb, cb, rfl⟩ := hv.form; have NB := Lib.hid hv; have NA4 := Lib.hid (NA.out.after hb (Nat.le_refl _)); have HX4 := Lib.hid (HX3.out.below hb HX3.out.lt); have HB4 : Hid (Below w.heap.size w w4) := HB3.out.trans (hb.mono HB3.out.size); have ka4 := HX4.out.cell 0 0 (b := w.heap.size) rfl rfl rfl; have kb4 := HX4.out.cell 0 1 (b := w.heap.size) rfl rfl rfl; have kc4 := HX4.out.cell 1 0 (b := w.heap.size + 1) rfl rfl rfl; have kd4 := HX4.out.cell 1 1 (b := w.heap.size + 1) rfl rfl rfl; clear hv hb)
        | (go_at_call_of 118 (Value.slice pa ma ca); refine (rtimes_any NA4.out NB.out (by omega) (by omega)).mono ?_; rintro e w5 ⟨vc, rfl, hv, hb⟩; obtain ⟨pc, mc, cc, rfl⟩ := hv.form; have NC := Lib.hid hv;  have HX5 := Lib.hid (HX4.out.below hb HX4.out.lt); have HB5 : Hid (Below w.heap.size w w5) := HB4.out.trans (hb.mono HB4.out.size); have ka5 := HX5.out.cell 0 0 (b := w.heap.size) rfl rfl rfl; have kb5 := HX5.out.cell 0 1 (b := w.heap.size) rfl rfl rfl; have kc5 := HX5.out.cell 1 0 (b := w.heap.size + 1) rfl rfl rfl; have kd5 := HX5.out.cell 1 1 (b := w.heap.size + 1) rfl rfl rfl; clear hv hb)
        | (go_at_call_of 119 (Value.string t); refine (HPT.out _).mono ?_; rintro e w6 ⟨vd, rfl, hv, hb⟩; obtain ⟨pd, md, cd, rfl⟩ := hv.form; have ND := Lib.hid hv; have NC6 := Lib.hid (NC.out.after hb (Nat.le_refl _)); have HX6 := Lib.hid (HX5.out.below hb HX5.out.lt); have HB6 : Hid (Below w.heap.size w w6) := HB5.out.trans (hb.mono HB5.out.size); have ka6 := HX6.out.cell 0 0 (b := w.heap.size) rfl rfl rfl; have kb6 := HX6.out.cell 0 1 (b := w.heap.size) rfl rfl rfl; have kc6 := HX6.out.cell 1 0 (b := w.heap.size + 1) rfl rfl rfl; have kd6 := HX6.out.cell 1 1 (b := w.heap.size + 1) rfl rfl rfl; clear hv hb)
        | (go_at_call_of 119 (Value.string u); refine (HPU.out _).mono ?_; rintro e w7 ⟨ve, rfl, hv, hb⟩; obtain ⟨pe, me, ce, rfl⟩ := hv.form; have NE := Lib.hid hv; have NC7 := Lib.hid (NC6.out.after hb (Nat.le_refl _)); have ND7 := Lib.hid (ND.out.after hb (Nat.le_refl _)); have HX7 := Lib.hid (HX6.out.below hb HX6.out.lt); have HB7 : Hid (Below w.heap.size w w7) := HB6.out.trans (hb.mono HB6.out.size); have ka7 := HX7.out.cell 0 0 (b := w.heap.size) rfl rfl rfl; have kb7 := HX7.out.cell 0 1 (b := w.heap.size) rfl rfl rfl; have kc7 := HX7.out.cell 1 0 (b := w.heap.size + 1) rfl rfl rfl; have kd7 := HX7.out.cell 1 1 (b := w.heap.size + 1) rfl rfl rfl; clear hv hb)
        | (go_at_call_of 118 (Value.slice pd md cd); refine (rtimes_any ND7.out NE.out (by omega) (by omega)).mono ?_; rintro e w8 ⟨vf, rfl, hv, hb⟩; obtain ⟨pf, mf, cf, rfl⟩ := hv.form; have NF := Lib.hid hv; have NC8 := Lib.hid (NC7.out.after hb (Nat.le_refl _)); have HX8 := Lib.hid (HX7.out.below hb HX7.out.lt); have HB8 : Hid (Below w.heap.size w w8) := HB7.out.trans (hb.mono HB7.out.size); have ka8 := HX8.out.cell 0 0 (b := w.heap.size) rfl rfl rfl; have kb8 := HX8.out.cell 0 1 (b := w.heap.size) rfl rfl rfl; have kc8 := HX8.out.cell 1 0 (b := w.heap.size + 1) rfl rfl rfl; have kd8 := HX8.out.cell 1 1 (b := w.heap.size + 1) rfl rfl rfl; clear hv hb)
        | (go_at_call 117; refine (made_any NC8.out NF.out HL1.out HL2.out HD0.out).mono ?_; rintro e w9 ⟨x, y, n, rfl, hR, hb9⟩; have HR := Lib.hid hR; have HX9 := Lib.hid (HX8.out.below hb9 HX8.out.lt); have HB9 : Hid (Below w.heap.size w w9) := HB8.out.trans (hb9.mono HB8.out.size); have ka9 := HX9.out.cell 0 0 (b := w.heap.size) rfl rfl rfl; have kb9 := HX9.out.cell 0 1 (b := w.heap.size) rfl rfl rfl; have kc9 := HX9.out.cell 1 0 (b := w.heap.size + 1) rfl rfl rfl; have kd9 := HX9.out.cell 1 1 (b := w.heap.size + 1) rfl rfl rfl; have r0 := HX9.out.cell 2 0 (b := w.heap.size + 1 + 1) rfl rfl rfl; have r1 := HX9.out.cell 2 1 (b := w.heap.size + 1 + 1) rfl rfl rfl; have f0 := HX9.out.free 2 0 (b := w.heap.size + 1 + 1) rfl rfl; have f1 := HX9.out.free 2 1 (b := w.heap.size + 1 + 1) rfl rfl; clear hR hb9)
      )
    all_goals
      have q := two_put_cells (HX9.out.block 2 (b := w.heap.size + 1 + 1) rfl rfl) (.string x) (.string y)
      have HBQ := Lib.hid (two_put_below HB9.out (b := w.heap.size + 1 + 1) (by omega) (.string x) (.string y))
      obtain ⟨wz, hwz⟩ : ∃ wz, (w9.setCell ⟨w.heap.size + 1 + 1, 0, none⟩ (.string x)).setCell ⟨w.heap.size + 1 + 1, 1, none⟩ (.string y) = wz := ⟨_, rfl⟩
      rw [hwz] at q HBQ
      obtain ⟨q0, q1⟩ := q
      rw [hwz]
      clear r0 r1 f0 f1 hwz
      go_wp2
      refine bodyPost_ret (v := .tuple #[.agg #[.string x, .string y], .int .i64 n]) (by simp [results, Tryz.f89, go_sem, q0, q1]) rfl ⟨_, _, _, rfl, ?_, HBQ.out⟩
      exact .inr ⟨HK.out, .inr ⟨H0.out, HR.out⟩⟩

theorem sgnN_rat {a b : Rat} (ha : 0 ≤ a) (hb : 0 ≤ b) : sgnN (a.num.toNat * b.den) (b.num.toNat * a.den) = sgnR a b := by
  rw [← sgn_of ha hb (r := sgnN (a.num.toNat * b.den) (b.num.toNat * a.den))]
  · unfold sgnN; split <;> (try split) <;> rfl
  · unfold Sign sgnN
    split
    · refine ⟨⟨fun _ => ?_, fun _ => ?_⟩, ⟨fun h => ?_, fun h => ?_⟩, ?_, ?_⟩ <;> omega
    · split <;> (refine ⟨⟨fun _ => ?_, fun _ => ?_⟩, ⟨fun h => ?_, fun h => ?_⟩, ?_, ?_⟩ <;> omega)
set_option maxRecDepth 100000 in
set_option maxHeartbeats 4000000 in
theorem rcompare_rat (s t u v : ByteArray) (w : World) (hs : s.size ≤ 1000000) (ht : t.size ≤ 1000000) (hu : u.size ≤ 1000000) (hv : v.size ≤ 1000000) :
    Calls Tryz.prog 88 #[.agg #[.string s, .string t], .agg #[.string u, .string v]] w (CmpPost2 s t u v w) := by
  cases hq : (okP s t && okP u v)
  · have HQ : Hid (bothE s t u v = 2) := bothE_no hq
    have HK := Lib.hid hq
    clear hq
    go_enter Tryz.func88, Tryz.ntmps88
    go_wp2_with fail
    obtain ⟨w1, hw1⟩ : ∃ w1, (w.alloc (.cells #[.string s, .string t] 46)).alloc (.cells #[.string u, .string v] 46) = w1 := ⟨_, rfl⟩
    rw [hw1]
    have HX1 : Hid (Boxes w.heap.size [.cells #[.string s, .string t] 46, .cells #[.string u, .string v] 46] w1) := by rw [← hw1]; exact Boxes.two w _ _
    have HB1 : Hid (Below w.heap.size w w1) := by rw [← hw1]; exact ((Below.refl _ w).alloc (Nat.le_refl _) _).alloc (by simp) _
    clear hw1
    refine (rboth_any s t u v _ hs ht hu hv).mono ?_
    rintro e w2 ⟨rfl, hb2⟩
    rw [HQ.out]
    have HX2 := Lib.hid (HX1.out.below hb2 HX1.out.lt)
    have HB2 := Lib.hid (HB1.out.trans (hb2.mono HB1.out.size))
    clear hb2
    go_wp2
    go_ret
    exact ⟨0, rfl, .inl ⟨HK.out, rfl⟩, HB2.out⟩
  · have hq2 := hq
    rw [Bool.and_eq_true] at hq2
    have HRN : Hid (sgnN (decVal s.data.toList * decVal v.data.toList) (decVal u.data.toList * decVal t.data.toList) = sgnR (ratP s t) (ratP u v)) := by
      obtain ⟨a1, a2, a3⟩ := ok_vals hq2.1
      obtain ⟨b1, b2, b3⟩ := ok_vals hq2.2
      show _ = _
      rw [a2, a3, b2, b3]
      exact sgnN_rat a1 b1
    clear hq2
    have HQ : Hid (bothE s t u v = 0) := bothE_yes hq
    have HK := Lib.hid hq
    have hq2 := hq
    rw [Bool.and_eq_true] at hq2
    have g1 := rok hq2.1
    have g2 := rok hq2.2
    obtain ⟨n1, hn1⟩ : ∃ n, decVal s.data.toList = n := ⟨_, rfl⟩
    obtain ⟨d1, hd1⟩ : ∃ n, decVal t.data.toList = n := ⟨_, rfl⟩
    obtain ⟨n2, hn2⟩ : ∃ n, decVal u.data.toList = n := ⟨_, rfl⟩
    obtain ⟨d2, hd2⟩ : ∃ n, decVal v.data.toList = n := ⟨_, rfl⟩
    rw [hn1, hd1] at g1
    rw [hn2, hd2] at g2
    rw [hn1, hd1, hn2, hd2] at HRN
    have HPS : Hid (∀ W, Calls Tryz.prog 119 #[.string s] W (PPost W n1)) := fun W => by rw [← hn1]; exact rparts_any s hs g1.ds W
    have HPT : Hid (∀ W, Calls Tryz.prog 119 #[.string t] W (PPost W d1)) := fun W => by rw [← hd1]; exact rparts_any t ht g1.dt W
    have HPU : Hid (∀ W, Calls Tryz.prog 119 #[.string u] W (PPost W n2)) := fun W => by rw [← hn2]; exact rparts_any u hu g2.ds W
    have HPV : Hid (∀ W, Calls Tryz.prog 119 #[.string v] W (PPost W d2)) := fun W => by rw [← hd2]; exact rparts_any v hv g2.dt W
    have l1 := g1.ls
    have l2 := g1.lt
    have l3 := g2.ls
    have l4 := g2.lt
    have M1 : Hid ((limbs 10000 (n1 * d2)).length ≤ 300) := Nat.le_trans (rmul_lims l1 l4) (by omega)
    have M2 : Hid ((limbs 10000 (n2 * d1)).length ≤ 300) := Nat.le_trans (rmul_lims l3 l2) (by omega)
    clear hq hq2 g1 g2 hn1 hd1 hn2 hd2
    go_enter Tryz.func88, Tryz.ntmps88
    go_wp2_with fail
    obtain ⟨w1, hw1⟩ : ∃ w1, (w.alloc (.cells #[.string s, .string t] 46)).alloc (.cells #[.string u, .string v] 46) = w1 := ⟨_, rfl⟩
    rw [hw1]
    have HX1 : Hid (Boxes w.heap.size [.cells #[.string s, .string t] 46, .cells #[.string u, .string v] 46] w1) := by rw [← hw1]; exact Boxes.two w _ _
    have HB1 : Hid (Below w.heap.size w w1) := by rw [← hw1]; exact ((Below.refl _ w).alloc (Nat.le_refl _) _).alloc (by simp) _
    clear hw1
    refine (rboth_any s t u v _ hs ht hu hv).mono ?_
    rintro e w2 ⟨rfl, hb2⟩
    rw [HQ.out]
    have HX2 := Lib.hid (HX1.out.below hb2 HX1.out.lt)
    have HB2 := Lib.hid (HB1.out.trans (hb2.mono HB1.out.size))
    clear hb2
    have ka2 := HX2.out.cell 0 0 (b := w.heap.size) rfl rfl rfl
    have kb2 := HX2.out.cell 0 1 (b := w.heap.size) rfl rfl rfl
    have kc2 := HX2.out.cell 1 0 (b := w.heap.size + 1) rfl rfl rfl
    have kd2 := HX2.out.cell 1 1 (b := w.heap.size + 1) rfl rfl rfl
    go_wp2_with fail
    go_region_held3
      (fun w' => w'.cell? ⟨w.heap.size, 0, none⟩ = some (.string s) ∧ w'.cell? ⟨w.heap.size, 1, none⟩ = some (.string t) ∧ w'.cell? ⟨w.heap.size + 1, 0, none⟩ = some (.string u) ∧ w'.cell? ⟨w.heap.size + 1, 1, none⟩ = some (.string v))
      (first | exact ⟨ka1, kb1, kc1, kd1⟩ | exact ⟨ka2, kb2, kc2, kd2⟩ | exact ⟨ka3, kb3, kc3, kd3⟩ | exact ⟨ka4, kb4, kc4, kd4⟩ | exact ⟨ka5, kb5, kc5, kd5⟩ | exact ⟨ka6, kb6, kc6, kd6⟩ | exact ⟨ka7, kb7, kc7, kd7⟩ | exact ⟨ka8, kb8, kc8, kd8⟩ | exact ⟨(other_put _ _ _ (by omega) _).trans ka9, (other_put _ _ _ (by omega) _).trans kb9, (other_put _ _ _ (by omega) _).trans kc9, (other_put _ _ _ (by omega) _).trans kd9⟩ | exact ⟨ka9, kb9, kc9, kd9⟩)
      (first
        | (go_at_call_of 119 (Value.string s); refine (HPS.out _).mono ?_; rintro e w3 ⟨va, rfl, hv, hb⟩; obtain ⟨pa, ma, ca, rfl⟩ := hv.form; have NA := Lib.hid hv;  have HX3 := Lib.hid (HX2.out.drew.below hb HX2.out.lt); have HB3 : Hid (Below w.heap.size w w3) := HB2.out.drew.trans (hb.mono HB2.out.drew.size); have ka3 := HX3.out.cell 0 0 (b := w.heap.size) rfl rfl rfl; have kb3 := HX3.out.cell 0 1 (b := w.heap.size) rfl rfl rfl; have kc3 := HX3.out.cell 1 0 (b := w.heap.size + 1) rfl rfl rfl; have kd3 := HX3.out.cell 1 1 (b := w.heap.size + 1) rfl rfl rfl; clear hv hb)
        | (go_at_call_of 119 (Value.string v); refine (HPV.out _).mono ?_; rintro e w4 ⟨vb, rfl, hv, hb⟩; obtain ⟨pb, mb, cb, rfl⟩ := hv.form; have NB := Lib.hid hv; have NA4 := Lib.hid (NA.out.after hb (Nat.le_refl _)); have HX4 := Lib.hid (HX3.out.below hb HX3.out.lt); have HB4 : Hid (Below w.heap.size w w4) := HB3.out.trans (hb.mono HB3.out.size); have ka4 := HX4.out.cell 0 0 (b := w.heap.size) rfl rfl rfl; have kb4 := HX4.out.cell 0 1 (b := w.heap.size) rfl rfl rfl; have kc4 := HX4.out.cell 1 0 (b := w.heap.size + 1) rfl rfl rfl; have kd4 := HX4.out.cell 1 1 (b := w.heap.size + 1) rfl rfl rfl; clear hv hb)
        | (go_at_call_of 118 (Value.slice pa ma ca); refine (rtimes_any NA4.out NB.out (by omega) (by omega)).mono ?_; rintro e w5 ⟨vc, rfl, hv, hb⟩; obtain ⟨pc, mc, cc, rfl⟩ := hv.form; have NC := Lib.hid hv;  have HX5 := Lib.hid (HX4.out.below hb HX4.out.lt); have HB5 : Hid (Below w.heap.size w w5) := HB4.out.trans (hb.mono HB4.out.size); have ka5 := HX5.out.cell 0 0 (b := w.heap.size) rfl rfl rfl; have kb5 := HX5.out.cell 0 1 (b := w.heap.size) rfl rfl rfl; have kc5 := HX5.out.cell 1 0 (b := w.heap.size + 1) rfl rfl rfl; have kd5 := HX5.out.cell 1 1 (b := w.heap.size + 1) rfl rfl rfl; clear hv hb)
        | (go_at_call_of 119 (Value.string u); refine (HPU.out _).mono ?_; rintro e w6 ⟨vd, rfl, hv, hb⟩; obtain ⟨pd, md, cd, rfl⟩ := hv.form; have ND := Lib.hid hv; have NC6 := Lib.hid (NC.out.after hb (Nat.le_refl _)); have HX6 := Lib.hid (HX5.out.below hb HX5.out.lt); have HB6 : Hid (Below w.heap.size w w6) := HB5.out.trans (hb.mono HB5.out.size); have ka6 := HX6.out.cell 0 0 (b := w.heap.size) rfl rfl rfl; have kb6 := HX6.out.cell 0 1 (b := w.heap.size) rfl rfl rfl; have kc6 := HX6.out.cell 1 0 (b := w.heap.size + 1) rfl rfl rfl; have kd6 := HX6.out.cell 1 1 (b := w.heap.size + 1) rfl rfl rfl; clear hv hb)
        | (go_at_call_of 119 (Value.string t); refine (HPT.out _).mono ?_; rintro e w7 ⟨ve, rfl, hv, hb⟩; obtain ⟨pe, me, ce, rfl⟩ := hv.form; have NE := Lib.hid hv; have NC7 := Lib.hid (NC6.out.after hb (Nat.le_refl _)); have ND7 := Lib.hid (ND.out.after hb (Nat.le_refl _)); have HX7 := Lib.hid (HX6.out.below hb HX6.out.lt); have HB7 : Hid (Below w.heap.size w w7) := HB6.out.trans (hb.mono HB6.out.size); have ka7 := HX7.out.cell 0 0 (b := w.heap.size) rfl rfl rfl; have kb7 := HX7.out.cell 0 1 (b := w.heap.size) rfl rfl rfl; have kc7 := HX7.out.cell 1 0 (b := w.heap.size + 1) rfl rfl rfl; have kd7 := HX7.out.cell 1 1 (b := w.heap.size + 1) rfl rfl rfl; clear hv hb)
        | (go_at_call_of 118 (Value.slice pd md cd); refine (rtimes_any ND7.out NE.out (by omega) (by omega)).mono ?_; rintro e w8 ⟨vf, rfl, hv, hb⟩; obtain ⟨pf, mf, cf, rfl⟩ := hv.form; have NF := Lib.hid hv; have NC8 := Lib.hid (NC7.out.after hb (Nat.le_refl _)); have HX8 := Lib.hid (HX7.out.below hb HX7.out.lt); have HB8 : Hid (Below w.heap.size w w8) := HB7.out.trans (hb.mono HB7.out.size); have ka8 := HX8.out.cell 0 0 (b := w.heap.size) rfl rfl rfl; have kb8 := HX8.out.cell 0 1 (b := w.heap.size) rfl rfl rfl; have kc8 := HX8.out.cell 1 0 (b := w.heap.size + 1) rfl rfl rfl; have kd8 := HX8.out.cell 1 1 (b := w.heap.size + 1) rfl rfl rfl; clear hv hb)
        | (go_at_call 121; refine (order_any NC8.out NF.out (by have := M1.out; omega) (by have := M2.out; omega)).mono ?_; rintro e w9 ⟨rfl, hb⟩; have HX9 := Lib.hid (HX8.out.below hb HX8.out.lt); have HB9 : Hid (Below w.heap.size w w9) := HB8.out.trans (hb.mono HB8.out.size); have ka9 := HX9.out.cell 0 0 (b := w.heap.size) rfl rfl rfl; have kb9 := HX9.out.cell 0 1 (b := w.heap.size) rfl rfl rfl; have kc9 := HX9.out.cell 1 0 (b := w.heap.size + 1) rfl rfl rfl; have kd9 := HX9.out.cell 1 1 (b := w.heap.size + 1) rfl rfl rfl; clear hb)
      )
    go_wp2
    go_ret
    exact ⟨_, by rw [HRN.out]; rfl, .inr ⟨HK.out, rfl⟩, HB9.out⟩
end Go.Proofs.YtcncdepjbhnknaaGreatDoor
namespace Go.Proofs.YtcncdepjbhnknaaGreatDoor
open Go.RowKit Go.Shelf
attribute [local go_sem ↓] Go.wp_at_zero Go.wp_at_succ



abbrev oneS : ByteArray := ⟨#[49]⟩
def NotA (s t x y : ByteArray) (e : Int) : Prop := Bi oneS oneS s t (SubA (ratP oneS oneS) (ratP s t)) x y e

theorem PartPost.mono {R R' : ByteArray → ByteArray → Int → Prop} {w w' : World} {e : Ending} (h : PartPost R w e w') (f : ∀ x y n, R x y n → R' x y n) : PartPost R' w e w' := by
  obtain ⟨x, y, n, h1, h2, h3⟩ := h
  exact ⟨x, y, n, h1, f x y n h2, h3⟩
theorem rmul_rat (s t u v : ByteArray) (w : World) (hs : s.size ≤ 1000000) (ht : t.size ≤ 1000000) (hu : u.size ≤ 1000000) (hv : v.size ≤ 1000000) :
    Calls Tryz.prog 78 #[.agg #[.string s, .string t], .agg #[.string u, .string v]] w (PartPost (Bi s t u v (Ans (ratP s t * ratP u v))) w) :=
  (rmul0 s t u v w hs ht hu hv).mono fun _ _ h => h.mono fun _ _ _ => bi_mul
theorem radd_rat (s t u v : ByteArray) (w : World) (hs : s.size ≤ 1000000) (ht : t.size ≤ 1000000) (hu : u.size ≤ 1000000) (hv : v.size ≤ 1000000) :
    Calls Tryz.prog 83 #[.agg #[.string s, .string t], .agg #[.string u, .string v]] w (PartPost (Bi s t u v (Ans (ratP s t + ratP u v))) w) :=
  (radd0 s t u v w hs ht hu hv).mono fun _ _ h => h.mono fun _ _ _ => bi_add
theorem rsub_rat (s t u v : ByteArray) (w : World) (hs : s.size ≤ 1000000) (ht : t.size ≤ 1000000) (hu : u.size ≤ 1000000) (hv : v.size ≤ 1000000) :
    Calls Tryz.prog 82 #[.agg #[.string s, .string t], .agg #[.string u, .string v]] w (PartPost (Bi s t u v (SubA (ratP s t) (ratP u v))) w) :=
  (rsub0 s t u v w hs ht hu hv).mono fun _ _ h => h.mono fun _ _ _ => bi_sub
theorem rdiv_rat (s t u v : ByteArray) (w : World) (hs : s.size ≤ 1000000) (ht : t.size ≤ 1000000) (hu : u.size ≤ 1000000) (hv : v.size ≤ 1000000) :
    Calls Tryz.prog 89 #[.agg #[.string s, .string t], .agg #[.string u, .string v]] w (PartPost (Bi s t u v (DivA (ratP s t) (ratP u v))) w) :=
  (rdiv0 s t u v w hs ht hu hv).mono fun _ _ h => h.mono fun _ _ _ => bi_div

set_option maxRecDepth 100000 in
set_option maxHeartbeats 2000000 in
theorem not_any (s t : ByteArray) (w : World) (hs : s.size ≤ 1000000) (ht : t.size ≤ 1000000) (hT : Tabs w) :
    Calls Tryz.prog 93 #[.agg #[.string s, .string t]] w (PartPost (NotA s t) w) := by
  have HT := Lib.hid hT
  clear hT
  go_enter Tryz.func93, Tryz.ntmps93
  go_wp2_with fail
  obtain ⟨w1, hw1⟩ : ∃ w1, (w.alloc (.cells #[.string s, .string t] 46)).alloc (.cells #[.string ⟨#[]⟩, .string ⟨#[]⟩] 46) = w1 := ⟨_, rfl⟩
  rw [hw1]
  have HX1 : Hid (Boxes w.heap.size [.cells #[.string s, .string t] 46, .cells #[.string ⟨#[]⟩, .string ⟨#[]⟩] 46] w1) := by rw [← hw1]; exact Boxes.two w _ _
  have HB1 : Hid (Below w.heap.size w w1) := by rw [← hw1]; exact ((Below.refl _ w).alloc (Nat.le_refl _) _).alloc (by simp) _
  clear hw1
  refine (sub_rat oneS oneS s t _ (by decide) (by decide) hs ht (HT.out.below HB1.out (Nat.le_refl _))).mono ?_
  rintro e w2 ⟨x, y, n, rfl, hR, hb2⟩
  have HR := Lib.hid hR
  have HX2 := Lib.hid (HX1.out.below hb2 HX1.out.lt)
  have HB2 := Lib.hid (HB1.out.trans (hb2.mono HB1.out.size))
  clear hR hb2
  have r0 := HX2.out.cell 1 0 (b := w.heap.size + 1) rfl rfl rfl
  have r1 := HX2.out.cell 1 1 (b := w.heap.size + 1) rfl rfl rfl
  have f0 := HX2.out.free 1 0 (b := w.heap.size + 1) rfl rfl
  have f1 := HX2.out.free 1 1 (b := w.heap.size + 1) rfl rfl
  go_wp2
  have q := two_put_cells (HX2.out.block 1 (b := w.heap.size + 1) rfl rfl) (.string x) (.string y)
  have HBQ := Lib.hid (two_put_below HB2.out (b := w.heap.size + 1) (by omega) (.string x) (.string y))
  obtain ⟨w9, hw9⟩ : ∃ w9, (w2.setCell ⟨w.heap.size + 1, 0, none⟩ (.string x)).setCell ⟨w.heap.size + 1, 1, none⟩ (.string y) = w9 := ⟨_, rfl⟩
  rw [hw9] at q HBQ
  obtain ⟨q0, q1⟩ := q
  rw [hw9]
  clear r0 r1 f0 f1 hw9
  go_wp2
  refine bodyPost_ret (v := .tuple #[.agg #[.string x, .string y], .int .i64 n]) (by simp [results, Tryz.f93, go_sem, q0, q1]) rfl ⟨_, _, _, rfl, ?_, HBQ.out⟩
  exact HR.out

set_option maxRecDepth 100000 in
theorem rone_any (w : World) : Calls Tryz.prog 94 #[] w (ValPost (pV oneS oneS) w) := by
  go_enter Tryz.func94, Tryz.ntmps94
  go_wp2
  have HB1 : Hid (Below w.heap.size w (w.alloc (pObj oneS oneS))) := (Below.refl _ w).alloc (Nat.le_refl _) _
  have c0 := cell_new w #[.string oneS, .string oneS] 46 0 rfl
  have c1 := cell_new w #[.string oneS, .string oneS] 46 1 rfl
  refine bodyPost_ret (v := pV oneS oneS) (by simp [results, Tryz.f94, go_sem, c0, c1]) rfl ⟨rfl, HB1.out⟩

set_option maxRecDepth 100000 in
set_option maxHeartbeats 4000000 in
theorem rnot_any (s t : ByteArray) (w : World) (hs : s.size ≤ 1000000) (ht : t.size ≤ 1000000) :
    Calls Tryz.prog 95 #[.agg #[.string s, .string t]] w (PartPost (NotA s t) w) := by
  go_enter Tryz.func95, Tryz.ntmps95
  go_wp2_with fail
  obtain ⟨w1, hw1⟩ : ∃ w1, (w.alloc (.cells #[.string s, .string t] 46)).alloc (.cells #[.string ⟨#[]⟩, .string ⟨#[]⟩] 46) = w1 := ⟨_, rfl⟩
  rw [hw1]
  have HX1 : Hid (Boxes w.heap.size [.cells #[.string s, .string t] 46, .cells #[.string ⟨#[]⟩, .string ⟨#[]⟩] 46] w1) := by rw [← hw1]; exact Boxes.two w _ _
  have HB1 : Hid (Below w.heap.size w w1) := by rw [← hw1]; exact ((Below.refl _ w).alloc (Nat.le_refl _) _).alloc (by simp) _
  clear hw1
  have ka1 := HX1.out.cell 0 0 (b := w.heap.size) rfl rfl rfl
  have kb1 := HX1.out.cell 0 1 (b := w.heap.size) rfl rfl rfl
  go_region_held3
    (fun w' => w'.cell? ⟨w.heap.size, 0, none⟩ = some (.string s) ∧ w'.cell? ⟨w.heap.size, 1, none⟩ = some (.string t))
    (first | exact ⟨ka1, kb1⟩ | exact ⟨ka2, kb2⟩ | exact ⟨(other_put _ _ _ (by omega) _).trans ka9, (other_put _ _ _ (by omega) _).trans kb9⟩ | exact ⟨ka9, kb9⟩)
    (first
      | (go_at_call 94; refine (rone_any _).mono ?_; rintro e w2 ⟨rfl, hb⟩; have HX2 := Lib.hid (HX1.out.drew.below hb HX1.out.lt); have HB2 : Hid (Below w.heap.size w w2) := HB1.out.drew.trans (hb.mono HB1.out.size); have ka2 := HX2.out.cell 0 0 (b := w.heap.size) rfl rfl rfl; have kb2 := HX2.out.cell 0 1 (b := w.heap.size) rfl rfl rfl; clear hb)
      | (go_at_call 82; refine (rsub_rat oneS oneS s t _ (by decide) (by decide) hs ht).mono ?_; rintro e w9 ⟨x, y, n, rfl, hR, hb9⟩; have HR := Lib.hid hR; have HX9 := Lib.hid (HX2.out.below hb9 HX2.out.lt); have HB9 : Hid (Below w.heap.size w w9) := HB2.out.trans (hb9.mono HB2.out.size); have ka9 := HX9.out.cell 0 0 (b := w.heap.size) rfl rfl rfl; have kb9 := HX9.out.cell 0 1 (b := w.heap.size) rfl rfl rfl; have r0 := HX9.out.cell 1 0 (b := w.heap.size + 1) rfl rfl rfl; have r1 := HX9.out.cell 1 1 (b := w.heap.size + 1) rfl rfl rfl; have f0 := HX9.out.free 1 0 (b := w.heap.size + 1) rfl rfl; have f1 := HX9.out.free 1 1 (b := w.heap.size + 1) rfl rfl; clear hR hb9))
  all_goals
    have q := two_put_cells (HX9.out.block 1 (b := w.heap.size + 1) rfl rfl) (.string x) (.string y)
    have HBQ := Lib.hid (two_put_below HB9.out (b := w.heap.size + 1) (by omega) (.string x) (.string y))
    obtain ⟨wz, hwz⟩ : ∃ wz, (w9.setCell ⟨w.heap.size + 1, 0, none⟩ (.string x)).setCell ⟨w.heap.size + 1, 1, none⟩ (.string y) = wz := ⟨_, rfl⟩
    rw [hwz] at q HBQ
    obtain ⟨q0, q1⟩ := q
    rw [hwz]
    clear r0 r1 f0 f1 hwz
    go_wp2
    refine bodyPost_ret (v := .tuple #[.agg #[.string x, .string y], .int .i64 n]) (by simp [results, Tryz.f95, go_sem, q0, q1]) rfl ⟨_, _, _, rfl, HR.out, HBQ.out⟩

set_option maxRecDepth 100000 in
set_option maxHeartbeats 2000000 in
theorem same_yes (x y : ByteArray) (n : Int) (w : World) : Calls Tryz.prog 35 #[pV x y, .int .i64 n, pV x y, .int .i64 n] w (BoolPost w true) := by
  go_enter Tryz.func35, Tryz.ntmps35
  go_wp2
  go_ret
  exact ⟨rfl, ((Below.refl _ w).alloc (Nat.le_refl _) _).alloc (by simp) _⟩
end Go.Proofs.YtcncdepjbhnknaaGreatDoor
