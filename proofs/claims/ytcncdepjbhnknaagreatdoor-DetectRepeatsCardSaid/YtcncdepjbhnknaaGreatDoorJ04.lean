/- The parts RTwo of a proof, put together by program (merge6.py). -/
import Derived.Test.YtcncdepjbhnknaaGreatDoorJ03
import Derived.Test.YtcncdepjbhnknaaGreatDoorH11
set_option linter.unusedVariables false
set_option linter.unusedSimpArgs false
/- The document's both, Add, Sub, Mul, Div, Not, Compare: as rational numbers. -/
namespace Go.Proofs.YtcncdepjbhnknaaGreatDoor
open Go.RowKit Go.Shelf
attribute [local go_sem ↓] Go.wp_at_zero Go.wp_at_succ

set_option maxRecDepth 100000 in
set_option maxHeartbeats 4000000 in
theorem rboth_any (s t u v : ByteArray) (w : World) (hs : s.size ≤ 1000000) (ht : t.size ≤ 1000000) (hu : u.size ≤ 1000000) (hv : v.size ≤ 1000000) :
    Calls Tryz.prog 116 #[.agg #[.string s, .string t], .agg #[.string u, .string v]] w (IntPost w (bothE s t u v)) := by
  obtain ⟨c1, hc1⟩ : ∃ c, okE s t = c := ⟨_, rfl⟩
  obtain ⟨c2, hc2⟩ : ∃ c, okE u v = c := ⟨_, rfl⟩
  have HM : Hid (max c1 c2 = bothE s t u v) := by show _ = _; unfold bothE; rw [hc1, hc2]
  have HC1 := Lib.hid hc1
  have HC2 := Lib.hid hc2
  clear hc1 hc2
  go_enter Tryz.func116, Tryz.ntmps116
  go_wp2_with fail
  obtain ⟨w1, hw1⟩ : ∃ w1, (w.alloc (.cells #[.string s, .string t] 46)).alloc (.cells #[.string u, .string v] 46) = w1 := ⟨_, rfl⟩
  rw [hw1]
  have HX1 : Hid (Boxes w.heap.size [.cells #[.string s, .string t] 46, .cells #[.string u, .string v] 46] w1) := by rw [← hw1]; exact Boxes.two w _ _
  have HB1 : Hid (Below w.heap.size w w1) := by rw [← hw1]; exact ((Below.refl _ w).alloc (Nat.le_refl _) _).alloc (by simp) _
  clear hw1
  have ka1 := HX1.out.cell 0 0 (b := w.heap.size) rfl rfl rfl
  have kb1 := HX1.out.cell 0 1 (b := w.heap.size) rfl rfl rfl
  have kc1 := HX1.out.cell 1 0 (b := w.heap.size + 1) rfl rfl rfl
  have kd1 := HX1.out.cell 1 1 (b := w.heap.size + 1) rfl rfl rfl
  go_region_held3
    (fun w' => w'.cell? ⟨w.heap.size, 0, none⟩ = some (.string s) ∧ w'.cell? ⟨w.heap.size, 1, none⟩ = some (.string t) ∧ w'.cell? ⟨w.heap.size + 1, 0, none⟩ = some (.string u) ∧ w'.cell? ⟨w.heap.size + 1, 1, none⟩ = some (.string v))
    (first | exact ⟨ka1, kb1, kc1, kd1⟩ | exact ⟨ka2, kb2, kc2, kd2⟩ | exact ⟨ka3, kb3, kc3, kd3⟩ | exact ⟨ka4, kb4, kc4, kd4⟩ | exact ⟨ka5, kb5, kc5, kd5⟩ | exact ⟨ka6, kb6, kc6, kd6⟩ | exact ⟨ka7, kb7, kc7, kd7⟩ | exact ⟨ka8, kb8, kc8, kd8⟩ | exact ⟨(other_put _ _ _ (by omega) _).trans ka9, (other_put _ _ _ (by omega) _).trans kb9, (other_put _ _ _ (by omega) _).trans kc9, (other_put _ _ _ (by omega) _).trans kd9⟩ | exact ⟨ka9, kb9, kc9, kd9⟩)
    (first
      | (go_at_call_of 120 (Value.agg #[.string s, .string t]); refine (rcheck_any s t _ hs ht).mono ?_; rintro e w2 ⟨rfl, hb⟩; rw [HC1.out]; have HX2 := Lib.hid (HX1.out.drew.below hb HX1.out.lt); have HB2 : Hid (Below w.heap.size w w2) := HB1.out.drew.trans (hb.mono HB1.out.size); have ka2 := HX2.out.cell 0 0 (b := w.heap.size) rfl rfl rfl; have kb2 := HX2.out.cell 0 1 (b := w.heap.size) rfl rfl rfl; have kc2 := HX2.out.cell 1 0 (b := w.heap.size + 1) rfl rfl rfl; have kd2 := HX2.out.cell 1 1 (b := w.heap.size + 1) rfl rfl rfl; clear hb)
      | (go_at_call_of 120 (Value.agg #[.string u, .string v]); refine (rcheck_any u v _ hu hv).mono ?_; rintro e w3 ⟨rfl, hb⟩; rw [HC2.out]; have HX3 := Lib.hid (HX2.out.below hb HX2.out.lt); have HB3 : Hid (Below w.heap.size w w3) := HB2.out.trans (hb.mono HB2.out.size); have ka3 := HX3.out.cell 0 0 (b := w.heap.size) rfl rfl rfl; have kb3 := HX3.out.cell 0 1 (b := w.heap.size) rfl rfl rfl; have kc3 := HX3.out.cell 1 0 (b := w.heap.size + 1) rfl rfl rfl; have kd3 := HX3.out.cell 1 1 (b := w.heap.size + 1) rfl rfl rfl; clear hb))
  go_wp2
  go_ret
  exact ⟨by rw [← HM.out]; rfl, HB3.out⟩

theorem radd_lims {n m k : Nat} (h1 : (limbs 10000 n).length ≤ k) (h2 : (limbs 10000 m).length ≤ k) : (limbs 10000 (n + m)).length ≤ k + 1 := by
  refine limbs_length_le (by omega) ?_
  have a1 := val_lt (limbs_lt (B := 10000) (by omega) n)
  have a2 := val_lt (limbs_lt (B := 10000) (by omega) m)
  rw [val_limbs (by omega)] at a1 a2
  have b1 := Nat.pow_le_pow_right (n := 10000) (by omega) h1
  have b2 := Nat.pow_le_pow_right (n := 10000) (by omega) h2
  rw [Nat.pow_succ]
  omega

set_option maxRecDepth 100000 in
set_option maxHeartbeats 4000000 in
theorem rmul0 (s t u v : ByteArray) (w : World) (hs : s.size ≤ 1000000) (ht : t.size ≤ 1000000) (hu : u.size ≤ 1000000) (hv : v.size ≤ 1000000) :
    Calls Tryz.prog 78 #[.agg #[.string s, .string t], .agg #[.string u, .string v]] w (PartPost (Bi s t u v (Ans (mkRat ((decVal s.data.toList * decVal u.data.toList : Nat) : Int) (decVal t.data.toList * decVal v.data.toList)))) w) := by
  cases hq : (okP s t && okP u v)
  · skip
    have HQ : Hid (bothE s t u v = 2) := bothE_no hq
    have HK := Lib.hid hq
    clear hq
    go_enter Tryz.func78, Tryz.ntmps78
    go_wp2_with fail
    obtain ⟨w1, hw1⟩ : ∃ w1, ((w.alloc (.cells #[.string s, .string t] 46)).alloc (.cells #[.string u, .string v] 46)).alloc (.cells #[.string ⟨#[]⟩, .string ⟨#[]⟩] 46) = w1 := ⟨_, rfl⟩
    rw [hw1]
    have HX1 : Hid (Boxes w.heap.size [.cells #[.string s, .string t] 46, .cells #[.string u, .string v] 46, .cells #[.string ⟨#[]⟩, .string ⟨#[]⟩] 46] w1) := by rw [← hw1]; exact Boxes.three w _ _ _
    have HB1 : Hid (Below w.heap.size w w1) := by rw [← hw1]; exact (((Below.refl _ w).alloc (Nat.le_refl _) _).alloc (by simp) _).alloc (by simp <;> omega) _
    clear hw1
    refine (rboth_any s t u v _ hs ht hu hv).mono ?_
    rintro e w2 ⟨rfl, hb2⟩
    rw [HQ.out]
    have HX2 := Lib.hid (HX1.out.below hb2 HX1.out.lt)
    have HB2 := Lib.hid (HB1.out.trans (hb2.mono HB1.out.size))
    clear hb2
    have r0 := HX2.out.cell 2 0 (b := w.heap.size + 1 + 1) rfl rfl rfl
    have r1 := HX2.out.cell 2 1 (b := w.heap.size + 1 + 1) rfl rfl rfl
    have f0 := HX2.out.free 2 0 (b := w.heap.size + 1 + 1) rfl rfl
    have f1 := HX2.out.free 2 1 (b := w.heap.size + 1 + 1) rfl rfl
    go_wp2
    have q := two_put_cells (HX2.out.block 2 (b := w.heap.size + 1 + 1) rfl rfl) (.string ⟨#[]⟩) (.string ⟨#[]⟩)
    have HBQ := Lib.hid (two_put_below HB2.out (b := w.heap.size + 1 + 1) (by omega) (.string ⟨#[]⟩) (.string ⟨#[]⟩))
    refine bodyPost_ret (v := .tuple #[.agg #[.string ⟨#[]⟩, .string ⟨#[]⟩], .int .i64 2]) (by simp [results, Tryz.f78, go_sem, q.1, q.2]) rfl ⟨_, _, _, rfl, .inl ⟨HK.out, rfl, rfl, rfl⟩, HBQ.out⟩
  · skip
    have HQ : Hid (bothE s t u v = 0) := bothE_yes hq
    have HK := Lib.hid hq
    have hq2 := hq
    rw [Bool.and_eq_true] at hq2
    have g1 := rok hq2.1
    have g2 := rok hq2.2
    obtain ⟨n1, hn1⟩ : ∃ n, decVal s.data.toList = n := ⟨_, rfl⟩
    obtain ⟨d1, hd1⟩ : ∃ n, decVal t.data.toList = n := ⟨_, rfl⟩
    obtain ⟨n2, hn2⟩ : ∃ n, decVal u.data.toList = n := ⟨_, rfl⟩
    obtain ⟨d2, hd2⟩ : ∃ n, decVal v.data.toList = n := ⟨_, rfl⟩
    rw [hn1, hd1] at g1
    rw [hn2, hd2] at g2
    have HPS : Hid (∀ W, Calls Tryz.prog 119 #[.string s] W (PPost W n1)) := fun W => by rw [← hn1]; exact rparts_any s hs g1.ds W
    have HPT : Hid (∀ W, Calls Tryz.prog 119 #[.string t] W (PPost W d1)) := fun W => by rw [← hd1]; exact rparts_any t ht g1.dt W
    have HPU : Hid (∀ W, Calls Tryz.prog 119 #[.string u] W (PPost W n2)) := fun W => by rw [← hn2]; exact rparts_any u hu g2.ds W
    have HPV : Hid (∀ W, Calls Tryz.prog 119 #[.string v] W (PPost W d2)) := fun W => by rw [← hd2]; exact rparts_any v hv g2.dt W
    have l1 := g1.ls
    have l2 := g1.lt
    have l3 := g2.ls
    have l4 := g2.lt
    have z1 := g1.pos
    have z2 := g2.pos
    rw [hn1, hd1, hn2, hd2]
    have HN := Lib.hid (And.intro hn1 (And.intro hd1 (And.intro hn2 hd2)))
    clear hq hq2 g1 g2 hn1 hd1 hn2 hd2
    have HL1 : Hid ((limbs 10000 (n1 * n2)).length ≤ 100000) := Nat.le_trans (rmul_lims l1 l3) (by omega)
    have HL2 : Hid ((limbs 10000 (d1 * d2)).length ≤ 100000) := Nat.le_trans (rmul_lims l2 l4) (by omega)
    have HD0 : Hid (0 < d1 * d2) := Nat.mul_pos z1 z2
    go_enter Tryz.func78, Tryz.ntmps78
    go_wp2_with fail
    obtain ⟨w1, hw1⟩ : ∃ w1, ((w.alloc (.cells #[.string s, .string t] 46)).alloc (.cells #[.string u, .string v] 46)).alloc (.cells #[.string ⟨#[]⟩, .string ⟨#[]⟩] 46) = w1 := ⟨_, rfl⟩
    rw [hw1]
    have HX1 : Hid (Boxes w.heap.size [.cells #[.string s, .string t] 46, .cells #[.string u, .string v] 46, .cells #[.string ⟨#[]⟩, .string ⟨#[]⟩] 46] w1) := by rw [← hw1]; exact Boxes.three w _ _ _
    have HB1 : Hid (Below w.heap.size w w1) := by rw [← hw1]; exact (((Below.refl _ w).alloc (Nat.le_refl _) _).alloc (by simp) _).alloc (by simp <;> omega) _
    clear hw1
    refine (rboth_any s t u v _ hs ht hu hv).mono ?_
    rintro e w2 ⟨rfl, hb2⟩
    rw [HQ.out]
    have HX2 := Lib.hid (HX1.out.below hb2 HX1.out.lt)
    have HB2 := Lib.hid (HB1.out.trans (hb2.mono HB1.out.size))
    clear hb2
    have ka2 := HX2.out.cell 0 0 (b := w.heap.size) rfl rfl rfl
    have kb2 := HX2.out.cell 0 1 (b := w.heap.size) rfl rfl rfl
    have kc2 := HX2.out.cell 1 0 (b := w.heap.size + 1) rfl rfl rfl
    have kd2 := HX2.out.cell 1 1 (b := w.heap.size + 1) rfl rfl rfl
    go_wp2_with fail
    go_region_held3
      (fun w' => w'.cell? ⟨w.heap.size, 0, none⟩ = some (.string s) ∧ w'.cell? ⟨w.heap.size, 1, none⟩ = some (.string t) ∧ w'.cell? ⟨w.heap.size + 1, 0, none⟩ = some (.string u) ∧ w'.cell? ⟨w.heap.size + 1, 1, none⟩ = some (.string v))
      (first | exact ⟨ka1, kb1, kc1, kd1⟩ | exact ⟨ka2, kb2, kc2, kd2⟩ | exact ⟨ka3, kb3, kc3, kd3⟩ | exact ⟨ka4, kb4, kc4, kd4⟩ | exact ⟨ka5, kb5, kc5, kd5⟩ | exact ⟨ka6, kb6, kc6, kd6⟩ | exact ⟨ka7, kb7, kc7, kd7⟩ | exact ⟨ka8, kb8, kc8, kd8⟩ | exact ⟨(other_put _ _ _ (by omega) _).trans ka9, (other_put _ _ _ (by omega) _).trans kb9, (other_put _ _ _ (by omega) _).trans kc9, (other_put _ _ _ (by omega) _).trans kd9⟩ | exact ⟨ka9, kb9, kc9, kd9⟩)
      (first
        | (go_at_call_of 119 (Value.string s); refine (HPS.out _).mono ?_; rintro e w3 ⟨va, rfl, hv, hb⟩; obtain ⟨pa, ma, ca, rfl⟩ := hv.form; have NA := Lib.hid hv;  have HX3 := Lib.hid (HX2.out.drew.below hb HX2.out.lt); have HB3 : Hid (Below w.heap.size w w3) := HB2.out.drew.trans (hb.mono HB2.out.drew.size); have ka3 := HX3.out.cell 0 0 (b := w.heap.size) rfl rfl rfl; have kb3 := HX3.out.cell 0 1 (b := w.heap.size) rfl rfl rfl; have kc3 := HX3.out.cell 1 0 (b := w.heap.size + 1) rfl rfl rfl; have kd3 := HX3.out.cell 1 1 (b := w.heap.size + 1) rfl rfl rfl; clear hv hb)
        | (go_at_call_of 119 (Value.string u); refine (HPU.out _).mono ?_; rintro e w4 ⟨vb, rfl, hv, hb⟩; obtain ⟨pb, mb, cb, rfl⟩ := hv.form; have NB := Lib.hid hv; have NA4 := Lib.hid (NA.out.after hb (Nat.le_refl _)); have HX4 := Lib.hid (HX3.out.below hb HX3.out.lt); have HB4 : Hid (Below w.heap.size w w4) := HB3.out.trans (hb.mono HB3.out.size); have ka4 := HX4.out.cell 0 0 (b := w.heap.size) rfl rfl rfl; have kb4 := HX4.out.cell 0 1 (b := w.heap.size) rfl rfl rfl; have kc4 := HX4.out.cell 1 0 (b := w.heap.size + 1) rfl rfl rfl; have kd4 := HX4.out.cell 1 1 (b := w.heap.size + 1) rfl rfl rfl; clear hv hb)
        | (go_at_call_of 118 (Value.slice pa ma ca); refine (rtimes_any NA4.out NB.out (by omega) (by omega)).mono ?_; rintro e w5 ⟨vc, rfl, hv, hb⟩; obtain ⟨pc, mc, cc, rfl⟩ := hv.form; have NC := Lib.hid hv;  have HX5 := Lib.hid (HX4.out.below hb HX4.out.lt); have HB5 : Hid (Below w.heap.size w w5) := HB4.out.trans (hb.mono HB4.out.size); have ka5 := HX5.out.cell 0 0 (b := w.heap.size) rfl rfl rfl; have kb5 := HX5.out.cell 0 1 (b := w.heap.size) rfl rfl rfl; have kc5 := HX5.out.cell 1 0 (b := w.heap.size + 1) rfl rfl rfl; have kd5 := HX5.out.cell 1 1 (b := w.heap.size + 1) rfl rfl rfl; clear hv hb)
        | (go_at_call_of 119 (Value.string t); refine (HPT.out _).mono ?_; rintro e w6 ⟨vd, rfl, hv, hb⟩; obtain ⟨pd, md, cd, rfl⟩ := hv.form; have ND := Lib.hid hv; have NC6 := Lib.hid (NC.out.after hb (Nat.le_refl _)); have HX6 := Lib.hid (HX5.out.below hb HX5.out.lt); have HB6 : Hid (Below w.heap.size w w6) := HB5.out.trans (hb.mono HB5.out.size); have ka6 := HX6.out.cell 0 0 (b := w.heap.size) rfl rfl rfl; have kb6 := HX6.out.cell 0 1 (b := w.heap.size) rfl rfl rfl; have kc6 := HX6.out.cell 1 0 (b := w.heap.size + 1) rfl rfl rfl; have kd6 := HX6.out.cell 1 1 (b := w.heap.size + 1) rfl rfl rfl; clear hv hb)
        | (go_at_call_of 119 (Value.string v); refine (HPV.out _).mono ?_; rintro e w7 ⟨ve, rfl, hv, hb⟩; obtain ⟨pe, me, ce, rfl⟩ := hv.form; have NE := Lib.hid hv; have NC7 := Lib.hid (NC6.out.after hb (Nat.le_refl _)); have ND7 := Lib.hid (ND.out.after hb (Nat.le_refl _)); have HX7 := Lib.hid (HX6.out.below hb HX6.out.lt); have HB7 : Hid (Below w.heap.size w w7) := HB6.out.trans (hb.mono HB6.out.size); have ka7 := HX7.out.cell 0 0 (b := w.heap.size) rfl rfl rfl; have kb7 := HX7.out.cell 0 1 (b := w.heap.size) rfl rfl rfl; have kc7 := HX7.out.cell 1 0 (b := w.heap.size + 1) rfl rfl rfl; have kd7 := HX7.out.cell 1 1 (b := w.heap.size + 1) rfl rfl rfl; clear hv hb)
        | (go_at_call_of 118 (Value.slice pd md cd); refine (rtimes_any ND7.out NE.out (by omega) (by omega)).mono ?_; rintro e w8 ⟨vf, rfl, hv, hb⟩; obtain ⟨pf, mf, cf, rfl⟩ := hv.form; have NF := Lib.hid hv; have NC8 := Lib.hid (NC7.out.after hb (Nat.le_refl _)); have HX8 := Lib.hid (HX7.out.below hb HX7.out.lt); have HB8 : Hid (Below w.heap.size w w8) := HB7.out.trans (hb.mono HB7.out.size); have ka8 := HX8.out.cell 0 0 (b := w.heap.size) rfl rfl rfl; have kb8 := HX8.out.cell 0 1 (b := w.heap.size) rfl rfl rfl; have kc8 := HX8.out.cell 1 0 (b := w.heap.size + 1) rfl rfl rfl; have kd8 := HX8.out.cell 1 1 (b := w.heap.size + 1) rfl rfl rfl; clear hv hb)
        | (go_at_call 117; refine (made_any NC8.out NF.out HL1.out HL2.out HD0.out).mono ?_; rintro e w9 ⟨x, y, n, rfl, hR, hb9⟩; have HR := Lib.hid hR; have HX9 := Lib.hid (HX8.out.below hb9 HX8.out.lt); have HB9 : Hid (Below w.heap.size w w9) := HB8.out.trans (hb9.mono HB8.out.size); have ka9 := HX9.out.cell 0 0 (b := w.heap.size) rfl rfl rfl; have kb9 := HX9.out.cell 0 1 (b := w.heap.size) rfl rfl rfl; have kc9 := HX9.out.cell 1 0 (b := w.heap.size + 1) rfl rfl rfl; have kd9 := HX9.out.cell 1 1 (b := w.heap.size + 1) rfl rfl rfl; have r0 := HX9.out.cell 2 0 (b := w.heap.size + 1 + 1) rfl rfl rfl; have r1 := HX9.out.cell 2 1 (b := w.heap.size + 1 + 1) rfl rfl rfl; have f0 := HX9.out.free 2 0 (b := w.heap.size + 1 + 1) rfl rfl; have f1 := HX9.out.free 2 1 (b := w.heap.size + 1 + 1) rfl rfl; clear hR hb9)
      )
    all_goals
      have q := two_put_cells (HX9.out.block 2 (b := w.heap.size + 1 + 1) rfl rfl) (.string x) (.string y)
      have HBQ := Lib.hid (two_put_below HB9.out (b := w.heap.size + 1 + 1) (by omega) (.string x) (.string y))
      obtain ⟨wz, hwz⟩ : ∃ wz, (w9.setCell ⟨w.heap.size + 1 + 1, 0, none⟩ (.string x)).setCell ⟨w.heap.size + 1 + 1, 1, none⟩ (.string y) = wz := ⟨_, rfl⟩
      rw [hwz] at q HBQ
      obtain ⟨q0, q1⟩ := q
      rw [hwz]
      clear r0 r1 f0 f1 hwz
      go_wp2
      refine bodyPost_ret (v := .tuple #[.agg #[.string x, .string y], .int .i64 n]) (by simp [results, Tryz.f78, go_sem, q0, q1]) rfl ⟨_, _, _, rfl, ?_, HBQ.out⟩
      exact .inr ⟨HK.out, HR.out⟩

set_option maxRecDepth 100000 in
set_option maxHeartbeats 4000000 in
theorem radd0 (s t u v : ByteArray) (w : World) (hs : s.size ≤ 1000000) (ht : t.size ≤ 1000000) (hu : u.size ≤ 1000000) (hv : v.size ≤ 1000000) :
    Calls Tryz.prog 83 #[.agg #[.string s, .string t], .agg #[.string u, .string v]] w (PartPost (Bi s t u v (Ans (mkRat ((decVal s.data.toList * decVal v.data.toList + decVal u.data.toList * decVal t.data.toList : Nat) : Int) (decVal t.data.toList * decVal v.data.toList)))) w) := by
  cases hq : (okP s t && okP u v)
  · skip
    have HQ : Hid (bothE s t u v = 2) := bothE_no hq
    have HK := Lib.hid hq
    clear hq
    go_enter Tryz.func83, Tryz.ntmps83
    go_wp2_with fail
    obtain ⟨w1, hw1⟩ : ∃ w1, ((w.alloc (.cells #[.string s, .string t] 46)).alloc (.cells #[.string u, .string v] 46)).alloc (.cells #[.string ⟨#[]⟩, .string ⟨#[]⟩] 46) = w1 := ⟨_, rfl⟩
    rw [hw1]
    have HX1 : Hid (Boxes w.heap.size [.cells #[.string s, .string t] 46, .cells #[.string u, .string v] 46, .cells #[.string ⟨#[]⟩, .string ⟨#[]⟩] 46] w1) := by rw [← hw1]; exact Boxes.three w _ _ _
    have HB1 : Hid (Below w.heap.size w w1) := by rw [← hw1]; exact (((Below.refl _ w).alloc (Nat.le_refl _) _).alloc (by simp) _).alloc (by simp <;> omega) _
    clear hw1
    refine (rboth_any s t u v _ hs ht hu hv).mono ?_
    rintro e w2 ⟨rfl, hb2⟩
    rw [HQ.out]
    have HX2 := Lib.hid (HX1.out.below hb2 HX1.out.lt)
    have HB2 := Lib.hid (HB1.out.trans (hb2.mono HB1.out.size))
    clear hb2
    have r0 := HX2.out.cell 2 0 (b := w.heap.size + 1 + 1) rfl rfl rfl
    have r1 := HX2.out.cell 2 1 (b := w.heap.size + 1 + 1) rfl rfl rfl
    have f0 := HX2.out.free 2 0 (b := w.heap.size + 1 + 1) rfl rfl
    have f1 := HX2.out.free 2 1 (b := w.heap.size + 1 + 1) rfl rfl
    go_wp2
    have q := two_put_cells (HX2.out.block 2 (b := w.heap.size + 1 + 1) rfl rfl) (.string ⟨#[]⟩) (.string ⟨#[]⟩)
    have HBQ := Lib.hid (two_put_below HB2.out (b := w.heap.size + 1 + 1) (by omega) (.string ⟨#[]⟩) (.string ⟨#[]⟩))
    refine bodyPost_ret (v := .tuple #[.agg #[.string ⟨#[]⟩, .string ⟨#[]⟩], .int .i64 2]) (by simp [results, Tryz.f83, go_sem, q.1, q.2]) rfl ⟨_, _, _, rfl, .inl ⟨HK.out, rfl, rfl, rfl⟩, HBQ.out⟩
  · skip
    have HQ : Hid (bothE s t u v = 0) := bothE_yes hq
    have HK := Lib.hid hq
    have hq2 := hq
    rw [Bool.and_eq_true] at hq2
    have g1 := rok hq2.1
    have g2 := rok hq2.2
    obtain ⟨n1, hn1⟩ : ∃ n, decVal s.data.toList = n := ⟨_, rfl⟩
    obtain ⟨d1, hd1⟩ : ∃ n, decVal t.data.toList = n := ⟨_, rfl⟩
    obtain ⟨n2, hn2⟩ : ∃ n, decVal u.data.toList = n := ⟨_, rfl⟩
    obtain ⟨d2, hd2⟩ : ∃ n, decVal v.data.toList = n := ⟨_, rfl⟩
    rw [hn1, hd1] at g1
    rw [hn2, hd2] at g2
    have HPS : Hid (∀ W, Calls Tryz.prog 119 #[.string s] W (PPost W n1)) := fun W => by rw [← hn1]; exact rparts_any s hs g1.ds W
    have HPT : Hid (∀ W, Calls Tryz.prog 119 #[.string t] W (PPost W d1)) := fun W => by rw [← hd1]; exact rparts_any t ht g1.dt W
    have HPU : Hid (∀ W, Calls Tryz.prog 119 #[.string u] W (PPost W n2)) := fun W => by rw [← hn2]; exact rparts_any u hu g2.ds W
    have HPV : Hid (∀ W, Calls Tryz.prog 119 #[.string v] W (PPost W d2)) := fun W => by rw [← hd2]; exact rparts_any v hv g2.dt W
    have l1 := g1.ls
    have l2 := g1.lt
    have l3 := g2.ls
    have l4 := g2.lt
    have z1 := g1.pos
    have z2 := g2.pos
    rw [hn1, hd1, hn2, hd2]
    have HN := Lib.hid (And.intro hn1 (And.intro hd1 (And.intro hn2 hd2)))
    clear hq hq2 g1 g2 hn1 hd1 hn2 hd2
    have M1 : Hid ((limbs 10000 (n1 * d2)).length ≤ 300) := Nat.le_trans (rmul_lims l1 l4) (by omega)
    have M2 : Hid ((limbs 10000 (n2 * d1)).length ≤ 300) := Nat.le_trans (rmul_lims l3 l2) (by omega)
    have HL2 : Hid ((limbs 10000 (d1 * d2)).length ≤ 100000) := Nat.le_trans (rmul_lims l2 l4) (by omega)
    have HD0 : Hid (0 < d1 * d2) := Nat.mul_pos z1 z2
    have HL1 : Hid ((limbs 10000 (n1 * d2 + n2 * d1)).length ≤ 100000) := Nat.le_trans (radd_lims M1.out M2.out) (by omega)
    go_enter Tryz.func83, Tryz.ntmps83
    go_wp2_with fail
    obtain ⟨w1, hw1⟩ : ∃ w1, ((w.alloc (.cells #[.string s, .string t] 46)).alloc (.cells #[.string u, .string v] 46)).alloc (.cells #[.string ⟨#[]⟩, .string ⟨#[]⟩] 46) = w1 := ⟨_, rfl⟩
    rw [hw1]
    have HX1 : Hid (Boxes w.heap.size [.cells #[.string s, .string t] 46, .cells #[.string u, .string v] 46, .cells #[.string ⟨#[]⟩, .string ⟨#[]⟩] 46] w1) := by rw [← hw1]; exact Boxes.three w _ _ _
    have HB1 : Hid (Below w.heap.size w w1) := by rw [← hw1]; exact (((Below.refl _ w).alloc (Nat.le_refl _) _).alloc (by simp) _).alloc (by simp <;> omega) _
    clear hw1
    refine (rboth_any s t u v _ hs ht hu hv).mono ?_
    rintro e w2 ⟨rfl, hb2⟩
    rw [HQ.out]
    have HX2 := Lib.hid (HX1.out.below hb2 HX1.out.lt)
    have HB2 := Lib.hid (HB1.out.trans (hb2.mono HB1.out.size))
    clear hb2
    have ka2 := HX2.out.cell 0 0 (b := w.heap.size) rfl rfl rfl
    have kb2 := HX2.out.cell 0 1 (b := w.heap.size) rfl rfl rfl
    have kc2 := HX2.out.cell 1 0 (b := w.heap.size + 1) rfl rfl rfl
    have kd2 := HX2.out.cell 1 1 (b := w.heap.size + 1) rfl rfl rfl
    go_wp2_with fail
    go_region_held3
      (fun w' => w'.cell? ⟨w.heap.size, 0, none⟩ = some (.string s) ∧ w'.cell? ⟨w.heap.size, 1, none⟩ = some (.string t) ∧ w'.cell? ⟨w.heap.size + 1, 0, none⟩ = some (.string u) ∧ w'.cell? ⟨w.heap.size + 1, 1, none⟩ = some (.string v))
      (first | exact ⟨ka1, kb1, kc1, kd1⟩ | exact ⟨ka2, kb2, kc2, kd2⟩ | exact ⟨ka3, kb3, kc3, kd3⟩ | exact ⟨ka4, kb4, kc4, kd4⟩ | exact ⟨ka5, kb5, kc5, kd5⟩ | exact ⟨ka6, kb6, kc6, kd6⟩ | exact ⟨ka7, kb7, kc7, kd7⟩ | exact ⟨ka8, kb8, kc8, kd8⟩ | exact ⟨(other_put _ _ _ (by omega) _).trans ka9, (other_put _ _ _ (by omega) _).trans kb9, (other_put _ _ _ (by omega) _).trans kc9, (other_put _ _ _ (by omega) _).trans kd9⟩ | exact ⟨ka9, kb9, kc9, kd9⟩)
      (first
        | (go_at_call_of 119 (Value.string s); refine (HPS.out _).mono ?_; rintro e w3 ⟨va, rfl, hv, hb⟩; obtain ⟨pa, ma, ca, rfl⟩ := hv.form; have NA := Lib.hid hv;  have HX3 := Lib.hid (HX2.out.drew.below hb HX2.out.lt); have HB3 : Hid (Below w.heap.size w w3) := HB2.out.drew.trans (hb.mono HB2.out.drew.size); have ka3 := HX3.out.cell 0 0 (b := w.heap.size) rfl rfl rfl; have kb3 := HX3.out.cell 0 1 (b := w.heap.size) rfl rfl rfl; have kc3 := HX3.out.cell 1 0 (b := w.heap.size + 1) rfl rfl rfl; have kd3 := HX3.out.cell 1 1 (b := w.heap.size + 1) rfl rfl rfl; clear hv hb)
        | (go_at_call_of 119 (Value.string v); refine (HPV.out _).mono ?_; rintro e w4 ⟨vb, rfl, hv, hb⟩; obtain ⟨pb, mb, cb, rfl⟩ := hv.form; have NB := Lib.hid hv; have NA4 := Lib.hid (NA.out.after hb (Nat.le_refl _)); have HX4 := Lib.hid (HX3.out.below hb HX3.out.lt); have HB4 : Hid (Below w.heap.size w w4) := HB3.out.trans (hb.mono HB3.out.size); have ka4 := HX4.out.cell 0 0 (b := w.heap.size) rfl rfl rfl; have kb4 := HX4.out.cell 0 1 (b := w.heap.size) rfl rfl rfl; have kc4 := HX4.out.cell 1 0 (b := w.heap.size + 1) rfl rfl rfl; have kd4 := HX4.out.cell 1 1 (b := w.heap.size + 1) rfl rfl rfl; clear hv hb)
        | (go_at_call_of 118 (Value.slice pa ma ca); refine (rtimes_any NA4.out NB.out (by omega) (by omega)).mono ?_; rintro e w5 ⟨vc, rfl, hv, hb⟩; obtain ⟨pc, mc, cc, rfl⟩ := hv.form; have NC := Lib.hid hv;  have HX5 := Lib.hid (HX4.out.below hb HX4.out.lt); have HB5 : Hid (Below w.heap.size w w5) := HB4.out.trans (hb.mono HB4.out.size); have ka5 := HX5.out.cell 0 0 (b := w.heap.size) rfl rfl rfl; have kb5 := HX5.out.cell 0 1 (b := w.heap.size) rfl rfl rfl; have kc5 := HX5.out.cell 1 0 (b := w.heap.size + 1) rfl rfl rfl; have kd5 := HX5.out.cell 1 1 (b := w.heap.size + 1) rfl rfl rfl; clear hv hb)
      )
    go_wp2_with fail
    go_region_held3
      (fun w' => w'.cell? ⟨w.heap.size, 0, none⟩ = some (.string s) ∧ w'.cell? ⟨w.heap.size, 1, none⟩ = some (.string t) ∧ w'.cell? ⟨w.heap.size + 1, 0, none⟩ = some (.string u) ∧ w'.cell? ⟨w.heap.size + 1, 1, none⟩ = some (.string v))
      (first | exact ⟨ka1, kb1, kc1, kd1⟩ | exact ⟨ka2, kb2, kc2, kd2⟩ | exact ⟨ka3, kb3, kc3, kd3⟩ | exact ⟨ka4, kb4, kc4, kd4⟩ | exact ⟨ka5, kb5, kc5, kd5⟩ | exact ⟨ka6, kb6, kc6, kd6⟩ | exact ⟨ka7, kb7, kc7, kd7⟩ | exact ⟨ka8, kb8, kc8, kd8⟩ | exact ⟨(other_put _ _ _ (by omega) _).trans ka9, (other_put _ _ _ (by omega) _).trans kb9, (other_put _ _ _ (by omega) _).trans kc9, (other_put _ _ _ (by omega) _).trans kd9⟩ | exact ⟨ka9, kb9, kc9, kd9⟩)
      (first
        | (go_at_call_of 119 (Value.string u); refine (HPU.out _).mono ?_; rintro e w6 ⟨vd, rfl, hv, hb⟩; obtain ⟨pd, md, cd, rfl⟩ := hv.form; have ND := Lib.hid hv; have NC6 := Lib.hid (PNum.after (w := w5.drew) NC.out hb (Nat.le_refl _)); have HX6 := Lib.hid (HX5.out.drew.below hb HX5.out.lt); have HB6 : Hid (Below w.heap.size w w6) := HB5.out.drew.trans (hb.mono HB5.out.drew.size); have ka6 := HX6.out.cell 0 0 (b := w.heap.size) rfl rfl rfl; have kb6 := HX6.out.cell 0 1 (b := w.heap.size) rfl rfl rfl; have kc6 := HX6.out.cell 1 0 (b := w.heap.size + 1) rfl rfl rfl; have kd6 := HX6.out.cell 1 1 (b := w.heap.size + 1) rfl rfl rfl; clear hv hb)
        | (go_at_call_of 119 (Value.string t); refine (HPT.out _).mono ?_; rintro e w7 ⟨ve, rfl, hv, hb⟩; obtain ⟨pe, me, ce, rfl⟩ := hv.form; have NE := Lib.hid hv; have NC7 := Lib.hid (NC6.out.after hb (Nat.le_refl _)); have ND7 := Lib.hid (ND.out.after hb (Nat.le_refl _)); have HX7 := Lib.hid (HX6.out.below hb HX6.out.lt); have HB7 : Hid (Below w.heap.size w w7) := HB6.out.trans (hb.mono HB6.out.size); have ka7 := HX7.out.cell 0 0 (b := w.heap.size) rfl rfl rfl; have kb7 := HX7.out.cell 0 1 (b := w.heap.size) rfl rfl rfl; have kc7 := HX7.out.cell 1 0 (b := w.heap.size + 1) rfl rfl rfl; have kd7 := HX7.out.cell 1 1 (b := w.heap.size + 1) rfl rfl rfl; clear hv hb)
        | (go_at_call_of 118 (Value.slice pd md cd); refine (rtimes_any ND7.out NE.out (by omega) (by omega)).mono ?_; rintro e w8 ⟨vf, rfl, hv, hb⟩; obtain ⟨pf, mf, cf, rfl⟩ := hv.form; have NF := Lib.hid hv; have NC8 := Lib.hid (NC7.out.after hb (Nat.le_refl _)); have HX8 := Lib.hid (HX7.out.below hb HX7.out.lt); have HB8 : Hid (Below w.heap.size w w8) := HB7.out.trans (hb.mono HB7.out.size); have ka8 := HX8.out.cell 0 0 (b := w.heap.size) rfl rfl rfl; have kb8 := HX8.out.cell 0 1 (b := w.heap.size) rfl rfl rfl; have kc8 := HX8.out.cell 1 0 (b := w.heap.size + 1) rfl rfl rfl; have kd8 := HX8.out.cell 1 1 (b := w.heap.size + 1) rfl rfl rfl; clear hv hb)
      )
    go_wp2_with fail
    go_region_held3
      (fun w' => w'.cell? ⟨w.heap.size, 0, none⟩ = some (.string s) ∧ w'.cell? ⟨w.heap.size, 1, none⟩ = some (.string t) ∧ w'.cell? ⟨w.heap.size + 1, 0, none⟩ = some (.string u) ∧ w'.cell? ⟨w.heap.size + 1, 1, none⟩ = some (.string v))
      (first | exact ⟨ka1, kb1, kc1, kd1⟩ | exact ⟨ka2, kb2, kc2, kd2⟩ | exact ⟨ka3, kb3, kc3, kd3⟩ | exact ⟨ka4, kb4, kc4, kd4⟩ | exact ⟨ka5, kb5, kc5, kd5⟩ | exact ⟨ka6, kb6, kc6, kd6⟩ | exact ⟨ka7, kb7, kc7, kd7⟩ | exact ⟨ka8, kb8, kc8, kd8⟩ | exact ⟨(other_put _ _ _ (by omega) _).trans ka9, (other_put _ _ _ (by omega) _).trans kb9, (other_put _ _ _ (by omega) _).trans kc9, (other_put _ _ _ (by omega) _).trans kd9⟩ | exact ⟨ka9, kb9, kc9, kd9⟩)
      (first
        | (go_at_call_of 123 (Value.slice pc mc cc); refine (rplus_any (NC8.out.after (Below.refl w8.heap.size w8).drew (Nat.le_refl _)) (NF.out.after (Below.refl w8.heap.size w8).drew (Nat.le_refl _)) (by have := M1.out; omega) (by have := M2.out; omega)).mono ?_; rintro e w11 ⟨vg, rfl, hv, hb⟩; obtain ⟨pg, mg, cg, rfl⟩ := hv.form; have NG := Lib.hid hv;  have HX11 := Lib.hid (HX8.out.drew.below hb HX8.out.lt); have HB11 : Hid (Below w.heap.size w w11) := HB8.out.drew.trans (hb.mono HB8.out.drew.size); have ka3 := HX11.out.cell 0 0 (b := w.heap.size) rfl rfl rfl; have kb3 := HX11.out.cell 0 1 (b := w.heap.size) rfl rfl rfl; have kc3 := HX11.out.cell 1 0 (b := w.heap.size + 1) rfl rfl rfl; have kd3 := HX11.out.cell 1 1 (b := w.heap.size + 1) rfl rfl rfl; clear hv hb)
        | (go_at_call_of 119 (Value.string t); refine (HPT.out _).mono ?_; rintro e w12 ⟨vh, rfl, hv, hb⟩; obtain ⟨ph, mh, ch, rfl⟩ := hv.form; have NH := Lib.hid hv; have NG12 := Lib.hid (NG.out.after hb (Nat.le_refl _)); have HX12 := Lib.hid (HX11.out.below hb HX11.out.lt); have HB12 : Hid (Below w.heap.size w w12) := HB11.out.trans (hb.mono HB11.out.size); have ka4 := HX12.out.cell 0 0 (b := w.heap.size) rfl rfl rfl; have kb4 := HX12.out.cell 0 1 (b := w.heap.size) rfl rfl rfl; have kc4 := HX12.out.cell 1 0 (b := w.heap.size + 1) rfl rfl rfl; have kd4 := HX12.out.cell 1 1 (b := w.heap.size + 1) rfl rfl rfl; clear hv hb)
        | (go_at_call_of 119 (Value.string v); refine (HPV.out _).mono ?_; rintro e w13 ⟨vi, rfl, hv, hb⟩; obtain ⟨pi, mi, ci, rfl⟩ := hv.form; have NI := Lib.hid hv; have NG13 := Lib.hid (NG12.out.after hb (Nat.le_refl _)); have NH13 := Lib.hid (NH.out.after hb (Nat.le_refl _)); have HX13 := Lib.hid (HX12.out.below hb HX12.out.lt); have HB13 : Hid (Below w.heap.size w w13) := HB12.out.trans (hb.mono HB12.out.size); have ka5 := HX13.out.cell 0 0 (b := w.heap.size) rfl rfl rfl; have kb5 := HX13.out.cell 0 1 (b := w.heap.size) rfl rfl rfl; have kc5 := HX13.out.cell 1 0 (b := w.heap.size + 1) rfl rfl rfl; have kd5 := HX13.out.cell 1 1 (b := w.heap.size + 1) rfl rfl rfl; clear hv hb)
        | (go_at_call_of 118 (Value.slice ph mh ch); refine (rtimes_any NH13.out NI.out (by omega) (by omega)).mono ?_; rintro e w14 ⟨vj, rfl, hv, hb⟩; obtain ⟨pj, mj, cj, rfl⟩ := hv.form; have NJ := Lib.hid hv; have NG14 := Lib.hid (NG13.out.after hb (Nat.le_refl _)); have HX14 := Lib.hid (HX13.out.below hb HX13.out.lt); have HB14 : Hid (Below w.heap.size w w14) := HB13.out.trans (hb.mono HB13.out.size); have ka6 := HX14.out.cell 0 0 (b := w.heap.size) rfl rfl rfl; have kb6 := HX14.out.cell 0 1 (b := w.heap.size) rfl rfl rfl; have kc6 := HX14.out.cell 1 0 (b := w.heap.size + 1) rfl rfl rfl; have kd6 := HX14.out.cell 1 1 (b := w.heap.size + 1) rfl rfl rfl; clear hv hb)
        | (go_at_call 117; refine (made_any NG14.out NJ.out HL1.out HL2.out HD0.out).mono ?_; rintro e w9 ⟨x, y, n, rfl, hR, hb9⟩; have HR := Lib.hid hR; have HX9 := Lib.hid (HX14.out.below hb9 HX14.out.lt); have HB9 : Hid (Below w.heap.size w w9) := HB14.out.trans (hb9.mono HB14.out.size); have ka9 := HX9.out.cell 0 0 (b := w.heap.size) rfl rfl rfl; have kb9 := HX9.out.cell 0 1 (b := w.heap.size) rfl rfl rfl; have kc9 := HX9.out.cell 1 0 (b := w.heap.size + 1) rfl rfl rfl; have kd9 := HX9.out.cell 1 1 (b := w.heap.size + 1) rfl rfl rfl; have r0 := HX9.out.cell 2 0 (b := w.heap.size + 1 + 1) rfl rfl rfl; have r1 := HX9.out.cell 2 1 (b := w.heap.size + 1 + 1) rfl rfl rfl; have f0 := HX9.out.free 2 0 (b := w.heap.size + 1 + 1) rfl rfl; have f1 := HX9.out.free 2 1 (b := w.heap.size + 1 + 1) rfl rfl; clear hR hb9)
      )
    all_goals
      have q := two_put_cells (HX9.out.block 2 (b := w.heap.size + 1 + 1) rfl rfl) (.string x) (.string y)
      have HBQ := Lib.hid (two_put_below HB9.out (b := w.heap.size + 1 + 1) (by omega) (.string x) (.string y))
      obtain ⟨wz, hwz⟩ : ∃ wz, (w9.setCell ⟨w.heap.size + 1 + 1, 0, none⟩ (.string x)).setCell ⟨w.heap.size + 1 + 1, 1, none⟩ (.string y) = wz := ⟨_, rfl⟩
      rw [hwz] at q HBQ
      obtain ⟨q0, q1⟩ := q
      rw [hwz]
      clear r0 r1 f0 f1 hwz
      go_wp2
      refine bodyPost_ret (v := .tuple #[.agg #[.string x, .string y], .int .i64 n]) (by simp [results, Tryz.f83, go_sem, q0, q1]) rfl ⟨_, _, _, rfl, ?_, HBQ.out⟩
      exact .inr ⟨HK.out, HR.out⟩
end Go.Proofs.YtcncdepjbhnknaaGreatDoor
