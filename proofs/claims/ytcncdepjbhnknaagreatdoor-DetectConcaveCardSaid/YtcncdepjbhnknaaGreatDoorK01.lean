/- The parts LawConcave, LawConcaveLift of a proof, put together by program (merge6.py). -/
import Derived.Test.YtcncdepjbhnknaaGreatDoorH21
import Derived.Test.YtcncdepjbhnknaaGreatDoorJ01
import Derived.Test.YtcncdepjbhnknaaGreatDoorJ06
import Derived.Deep.Cut
import Derived.Test.YtcncdepjbhnknaaGreatDoorH22
set_option linter.unusedVariables false
set_option linter.unusedSimpArgs false
namespace Go.Proofs.YtcncdepjbhnknaaGreatDoor
open Go.RowKit Go.Shelf
attribute [local go_sem ↓] Go.wp_at_zero Go.wp_at_succ
abbrev SJ (q : Nat × ByteArray × ByteArray) (w' : World) : Prop := w'.cell? ⟨q.1, 0, none⟩ = some (.string q.2.1) ∧ w'.cell? ⟨q.1, 1, none⟩ = some (.string q.2.2)
theorem okE_or (s t : ByteArray) : (okE s t = 2) ∨ (okE s t = 0 ∧ okP s t = true) := by
  cases h : okP s t
  · exact .inl (okE_no h)
  · exact .inr ⟨okE_yes h, rfl⟩
theorem sgn_le {a b : Rat} (h : a ≤ b) : ∃ n, sgnR a b = n ∧ n ≤ (0 : Int) := ⟨_, rfl, Int.not_lt.1 (sgnR_le h)⟩
theorem rat_turn {a b : Rat} (h : ¬ a ≤ b) : b ≤ a := by grind
abbrev SC (p q r s : Nat × ByteArray × ByteArray) (w' : World) : Prop := SJ p w' ∧ SJ q w' ∧ SJ r w' ∧ SJ s w'
theorem conc_facts {bs : List BB} {P Q : Rat} {u1 v1 u2 v2 : ByteArray} (hC : CurveP bs) (hle : P ≤ Q) (iP : IsP P u1 v1) (iQ : IsP Q u2 v2) (zP : Sz 40 P) (zQ : Sz 40 Q) :
    ∃ (x y z s t : Rat) (n1 n2 n3 n4 n5 : Int), ((∃ d1 d2, IsP (P + Q) d1 d2) ∧ (∃ e1 e2, IsP ((P + Q) * mkRat (1 : Nat) 2) e1 e2) ∧ (∃ f1 f2, IsP (x + y) f1 f2) ∧ (∃ g1 g2, IsP ((x + y) * mkRat (1 : Nat) 2) g1 g2) ∧
      (∃ x1 x2, IsP x x1 x2) ∧ (∃ y1 y2, IsP y y1 y2) ∧ (∃ z1 z2, IsP z z1 z2) ∧ (∃ k1 k2, IsP s k1 k2) ∧ (∃ l1 l2, IsP t l1 l2) ∧ (∃ m1 m2, IsP (Q - P) m1 m2) ∧ (∃ o1 o2, IsP (y - x) o1 o2) ∧ (∃ p1 p2, IsP (s * (Q - P)) p1 p2) ∧ (∃ q1 q2, IsP (t * (Q - P)) q1 q2)) ∧
      ((Sz 300 P ∧ Sz 300 Q ∧ Sz 300 ((P + Q) * mkRat (1 : Nat) 2)) ∧ (ChanceR bs.length (cR bs) (hR bs) P x ∧ ChanceR bs.length (cR bs) (hR bs) Q y ∧ ChanceR bs.length (cR bs) (hR bs) ((P + Q) * mkRat (1 : Nat) 2) z) ∧ SlopeR bs.length (cR bs) (hR bs) P s ∧ SlopeR bs.length (cR bs) (hR bs) Q t) ∧
      (sgnR x y = n1 ∧ sgnR y 1 = n2 ∧ sgnR ((x + y) * mkRat (1 : Nat) 2) z = n3 ∧ sgnR (y - x) (s * (Q - P)) = n4 ∧ sgnR (t * (Q - P)) (y - x) = n5) ∧ (n1 ≤ 0 ∧ n2 ≤ 0 ∧ n3 ≤ 0 ∧ n4 ≤ 0 ∧ n5 ≤ 0) := by
  have nP := iP.nn
  have nQ := iQ.nn
  have nsum : 0 ≤ P + Q := by grind
  have zsum := Sz.add nP nQ zP zQ
  obtain ⟨d1, d2, isum⟩ := sz_isP' nsum zsum (by decide) (by decide)
  obtain ⟨x, x1, x2, rx, ix, zx, nx, ux⟩ := chance_ex hC nP zP (by decide)
  obtain ⟨y, y1, y2, ry, iy, zy, ny, uy⟩ := chance_ex hC nQ zQ (by decide)
  have nmid : 0 ≤ (P + Q) * mkRat (1 : Nat) 2 := Rat.mul_nonneg nsum half_nn
  have zmid := Sz.mul nsum half_nn zsum half_sz
  obtain ⟨e1, e2, imid⟩ := sz_isP' nmid zmid (by decide) (by decide)
  obtain ⟨z, z1, z2, rz, iz, zz, nz, uz⟩ := chance_ex hC nmid zmid (by decide)
  have nboth : 0 ≤ x + y := by grind
  have zboth := Sz.add nx ny zx zy
  obtain ⟨f1, f2, iboth⟩ := sz_isP' nboth zboth (by decide) (by decide)
  have nhalf : 0 ≤ (x + y) * mkRat (1 : Nat) 2 := Rat.mul_nonneg nboth half_nn
  obtain ⟨g1, g2, ihalf⟩ := sz_isP' nhalf (Sz.mul nboth half_nn zboth half_sz) (by decide) (by decide)
  obtain ⟨s, k1, k2, rs, is', zs, ns⟩ := slope_ex (q := P) hC
  obtain ⟨t, l1, l2, rt, it, zt, nt⟩ := slope_ex (q := Q) hC
  have nway : 0 ≤ Q - P := by grind
  have zway := Sz.sub nQ nP hle zQ zP
  obtain ⟨m1, m2, iway⟩ := sz_isP' nway zway (by decide) (by decide)
  have hxy : x ≤ y := rx.mono hC.conc' hle ry
  obtain ⟨o1, o2, irise⟩ := sz_isP' (q := y - x) (by grind) (Sz.sub ny nx hxy zy zx) (by decide) (by decide)
  obtain ⟨p1, p2, imost⟩ := sz_isP' (q := s * (Q - P)) (Rat.mul_nonneg ns nway) (Sz.mul ns nway zs zway) (by decide) (by decide)
  obtain ⟨q1, q2, ileast⟩ := sz_isP' (q := t * (Q - P)) (Rat.mul_nonneg nt nway) (Sz.mul nt nway zt zway) (by decide) (by decide)
  have hmid : (x + y) * mkRat (1 : Nat) 2 ≤ z := by
    have := rx.mid hC.conc' ry (m := (P + Q) * mkRat (1 : Nat) 2) (by have := half_two (P + Q); grind) rz
    have e := half_two (x + y)
    grind
  obtain ⟨n1, hs1, hn1⟩ := sgn_le hxy
  obtain ⟨n2, hs2, hn2⟩ := sgn_le uy
  obtain ⟨n3, hs3, hn3⟩ := sgn_le hmid
  obtain ⟨n4, hs4, hn4⟩ := sgn_le (rx.most hC.conc' rs ry)
  obtain ⟨n5, hs5, hn5⟩ := sgn_le (rx.least hC.conc' ry rt)
  exact ⟨x, y, z, s, t, n1, n2, n3, n4, n5, ⟨⟨_, _, isum⟩, ⟨_, _, imid⟩, ⟨_, _, iboth⟩, ⟨_, _, ihalf⟩, ⟨_, _, ix⟩, ⟨_, _, iy⟩, ⟨_, _, iz⟩, ⟨_, _, is'⟩, ⟨_, _, it⟩, ⟨_, _, iway⟩, ⟨_, _, irise⟩, ⟨_, _, imost⟩, ⟨_, _, ileast⟩⟩,
    ⟨⟨zP.mono (by decide), zQ.mono (by decide), zmid.mono (by decide)⟩, ⟨rx, ry, rz⟩, rs, rt⟩, ⟨hs1, hs2, hs3, hs4, hs5⟩, hn1, hn2, hn3, hn4, hn5⟩
set_option maxRecDepth 100000 in
set_option maxHeartbeats 8000000 in
theorem concave_law {v : Value} {bs : List BB} {w : World} (hv : BL w v bs) (s1 t1 s2 t2 : ByteArray) (hD : DetV w) (hT : Tabs w) :
    Calls Tryz.prog 10 #[v, .agg #[.string s1, .string t1], .agg #[.string s2, .string t2]] w (BoolPost w true) := by
  obtain ⟨n, hn⟩ : ∃ n, bs.length = n := ⟨_, rfl⟩
  obtain ⟨p, c, rfl⟩ : ∃ p c, v = .slice p n c := by obtain ⟨p, c, h, _⟩ := id hv; exact ⟨_, _, by rw [← hn]; exact h⟩
  have HV := Lib.hid hv
  have HT := Lib.hid hT
  have HD := Lib.hid hD
  clear hv hn hT hD
  go_enter Tryz.func10, Tryz.ntmps10
  go_wp2_with fail
  obtain ⟨w0, hw0⟩ : ∃ w0, (w.alloc (pObj s1 t1)).alloc (pObj s2 t2) = w0 := ⟨_, rfl⟩
  rw [hw0]
  have HB0 : Hid (Below w.heap.size w w0) := by rw [← hw0]; exact ((Below.refl _ w).alloc (Nat.le_refl _) _).alloc (by simp) _
  have HA0 : Hid (Ats [(w.heap.size + 1, s2, t2), (w.heap.size, s1, t1)] w0) := by
    rw [← hw0]
    have h := ((Ats.nil w).push s1 t1).push s2 t2
    rwa [World.alloc_size] at h
  clear hw0
  skip
  refine (alive_any _ (HD.out.below HB0.out (Nat.le_refl _)) (HT.out.below HB0.out (Nat.le_refl _))).mono ?_
  rintro e w1 ⟨rfl, hb⟩
  have HB1 := Lib.hid (HB0.out.trans (hb.mono HB0.out.size))
  have HA1 := Lib.hid (HA0.out.after hb (Nat.le_refl _))
  clear hb
  go_wp2_with fail
  refine (great_any (HV.out.after HB1.out (Nat.le_refl _))).mono ?_
  rintro e w2 ⟨r, rfl, hG, hb⟩
  have HB2 := Lib.hid (HB1.out.trans (hb.mono HB1.out.size))
  have HA2 := Lib.hid (HA1.out.after hb (Nat.le_refl _))
  clear hb
  cases r
  · have HGR := Lib.hid (hG rfl)
    have HLM := Lib.hid (few_lim HGR.out.2)
    clear hG
    skip
    have m0 := HA2.out.c0 1 rfl
    have m1 := HA2.out.c1 1 rfl
    have m2 := HA2.out.c0 0 rfl
    have m3 := HA2.out.c1 0 rfl
    go_wp2_with fail
    clear m0 m1 m2 m3
    have hal := (Below.refl w2.heap.size w2).alloc (Nat.le_refl _) (.cells #[.string s1, .string t1, .string s2, .string t2] 46)
    have HB3 := Lib.hid (HB2.out.trans (hal.mono HB2.out.size))
    have HA3 := Lib.hid (HA2.out.after hal (Nat.le_refl _))
    clear hal
    refine (short_any 40 (by decide) (pl_two _ s1 t1 s2 t2)).mono ?_
    rintro e w4 ⟨rfl, hb⟩
    have HB4 := Lib.hid (HB3.out.trans (hb.mono HB3.out.size))
    have HA4 := Lib.hid (HA3.out.after hb (Nat.le_refl _))
    clear hb
    cases hsh : shortB 40 [(s1, t1), (s2, t2)]
    · clear hsh
      skip
      go_wp2
      go_ret
      exact ⟨rfl, HB4.out⟩
    · have hs := shortB_iff.1 hsh
      obtain ⟨l1, l2⟩ := hs (s1, t1) (by simp)
      obtain ⟨l3, l4⟩ := hs (s2, t2) (by simp)
      dsimp only at l1 l2 l3 l4
      have HLL : Hid ((s1.size ≤ 40 ∧ t1.size ≤ 40) ∧ s2.size ≤ 40 ∧ t2.size ≤ 40) := ⟨⟨l1, l2⟩, l3, l4⟩
      clear hsh hs l1 l2 l3 l4
      go_wp2_with fail
      refine (checkCurve_any (HV.out.after HB4.out (Nat.le_refl _)) HLM.out (HD.out.below HB4.out (Nat.le_refl _)) (HT.out.below HB4.out (Nat.le_refl _))).mono ?_
      rintro e w5 ⟨m, rfl, hE, hb⟩
      have HB5 := Lib.hid (HB4.out.trans (hb.mono HB4.out.size))
      have HA5 := Lib.hid (HA4.out.after hb (Nat.le_refl _))
      clear hb
      rcases hE with ⟨hC, rfl⟩ | ⟨hC, rfl⟩
      · have HC := Lib.hid hC
        clear hC
        skip
        have m0 := HA5.out.c0 1 rfl
        have m1 := HA5.out.c1 1 rfl
        go_wp2_with fail
        clear m0 m1
        skip
        refine (check_any s1 t1 _ (Nat.le_trans HLL.out.1.1 (by decide)) (Nat.le_trans HLL.out.1.2 (by decide))).mono ?_
        rintro e w6 ⟨rfl, hb⟩
        have HB6 := Lib.hid (HB5.out.trans (hb.mono HB5.out.size))
        have HA6 := Lib.hid (HA5.out.after hb (Nat.le_refl _))
        clear hb
        rcases okE_or s1 t1 with h1 | ⟨h1, ka⟩
        · rw [h1]
          clear h1
          skip
          go_wp2
          go_ret
          exact ⟨rfl, HB6.out⟩
        · rw [h1]
          have KA := Lib.hid ka
          clear h1 ka
          skip
          have m0 := HA6.out.c0 0 rfl
          have m1 := HA6.out.c1 0 rfl
          go_wp2_with fail
          clear m0 m1
          skip
          refine (check_any s2 t2 _ (Nat.le_trans HLL.out.2.1 (by decide)) (Nat.le_trans HLL.out.2.2 (by decide))).mono ?_
          rintro e w7 ⟨rfl, hb⟩
          have HB7 := Lib.hid (HB6.out.trans (hb.mono HB6.out.size))
          have HA7 := Lib.hid (HA6.out.after hb (Nat.le_refl _))
          clear hb
          rcases okE_or s2 t2 with h1 | ⟨h1, kb⟩
          · rw [h1]
            clear h1
            skip
            go_wp2
            go_ret
            exact ⟨rfl, HB7.out⟩
          · rw [h1]
            clear h1
            have ia := isP_of_ok KA.out
            have ib := isP_of_ok kb
            have za := ia.sz HLL.out.1.1 HLL.out.1.2
            have zb := ib.sz HLL.out.2.1 HLL.out.2.2
            obtain ⟨a, ha⟩ : ∃ q, ratP s1 t1 = q := ⟨_, rfl⟩
            obtain ⟨b, hb⟩ : ∃ q, ratP s2 t2 = q := ⟨_, rfl⟩
            rw [ha] at ia za
            rw [hb] at ib zb
            clear ha hb kb
            obtain ⟨g0, hg0⟩ : ∃ z, sgnR a b = z := ⟨_, rfl⟩
            have HG0 := Lib.hid hg0
            have IA := Lib.hid ia
            have IB := Lib.hid ib
            have ZA := Lib.hid za
            have ZB := Lib.hid zb
            clear ia ib za zb hg0
            skip
            have m0 := HA7.out.c0 1 rfl
            have m1 := HA7.out.c1 1 rfl
            have m2 := HA7.out.c0 0 rfl
            have m3 := HA7.out.c1 0 rfl
            go_wp2_with fail
            clear m0 m1 m2 m3
            skip
            refine (cmp_to IA.out IB.out HG0.out _).mono ?_
            rintro e w8 ⟨rfl, hb⟩
            have HB8 := Lib.hid (HB7.out.trans (hb.mono HB7.out.size))
            have HA8 := Lib.hid (HA7.out.after hb (Nat.le_refl _))
            clear hb
            go_upto_if 68 with (fail)
            go_cut [] from 35 (fun wc => ∃ (P Q : Rat) (u1 v1 u2 v2 : ByteArray), Hid (P ≤ Q ∧ (IsP P u1 v1 ∧ IsP Q u2 v2) ∧ Sz 40 P ∧ Sz 40 Q) ∧ Hid (Below w.heap.size w wc) ∧ Hid (Ats [(w.heap.size + 1, u2, v2), (w.heap.size, u1, v1)] wc))
            case first =>
              by_cases hab : a ≤ b
              · have hng : ¬ (0 : Int) < g0 := by rw [← HG0.out]; exact sgnR_le hab
                have HLE := Lib.hid hab
                clear hab
                go_wp2
                go_meet
                case rel => exact ⟨a, b, s1, t1, s2, t2, ⟨HLE.out, ⟨IA.out, IB.out⟩, ZA.out, ZB.out⟩, HB8, HA8⟩
              · have hng : (0 : Int) < g0 := by rw [← HG0.out]; exact sgnR_gt hab
                have HLE : Hid (b ≤ a) := rat_turn hab
                clear hab
                have c0 := HA8.out.c0 1 rfl
                have c1 := HA8.out.c1 1 rfl
                have c2 := HA8.out.c0 0 rfl
                have c3 := HA8.out.c1 0 rfl
                have ga := HA8.out 1 (w.heap.size, s1, t1) rfl
                have gb := HA8.out 0 (w.heap.size + 1, s2, t2) rfl
                have f0 := known_frozen ga 0
                have f1 := known_frozen ga 1
                have f2 := known_frozen gb 0
                have f3 := known_frozen gb 1
                dsimp only at ga gb f0 f1 f2 f3
                have HGA := Lib.hid ga
                have HGB := Lib.hid gb
                clear ga gb
                go_wp2
                go_meet
                case rel =>
                  refine ⟨b, a, s2, t2, s1, t1, ⟨HLE.out, ⟨IB.out, IA.out⟩, ZB.out, ZA.out⟩, two_put_below (two_put_below HB8.out (Nat.le_refl _) (.string s2) (.string t2)) (Nat.le_succ _) (.string s1) (.string t1), ?_⟩
                  obtain ⟨w9, hw9⟩ : ∃ z0, (((w8.setCell ⟨w.heap.size, 0, none⟩ (.string s2)).setCell ⟨w.heap.size, 1, none⟩ (.string t2)).setCell ⟨w.heap.size + 1, 0, none⟩ (.string s1)).setCell ⟨w.heap.size + 1, 1, none⟩ (.string t1) = z0 := ⟨_, rfl⟩
                  have k1 : w9.heap[w.heap.size + 1]? = some (pObj s1 t1) := by
                    rw [← hw9]
                    refine two_put (u0 := .string s2) (u1 := .string t2) ?_ _ _
                    exact ((Below.heap_setCell _ _ _ _ (by show w.heap.size + 1 ≠ w.heap.size; omega)).trans (Below.heap_setCell _ _ _ _ (by show w.heap.size + 1 ≠ w.heap.size; omega))).trans HGB.out
                  have k2 : w9.heap[w.heap.size]? = some (pObj s2 t2) := by
                    rw [← hw9]
                    exact ((Below.heap_setCell _ _ _ _ (by show w.heap.size ≠ w.heap.size + 1; omega)).trans (Below.heap_setCell _ _ _ _ (by show w.heap.size ≠ w.heap.size + 1; omega))).trans (two_put HGA.out (.string s2) (.string t2))
                  have h9 : Ats [(w.heap.size + 1, s1, t1), (w.heap.size, s2, t2)] w9 := ((Ats.nil w9).also k2).also k1
                  rw [← hw9] at h9
                  exact h9
            case rest =>
              clear HB8 HA8 HG0 IA IB ZA ZB
              obtain ⟨P, Q, u1, v1, u2, v2, hx, HB8, HA8⟩ := hcut
              obtain ⟨hle, ⟨iP, iQ⟩, zP, zQ⟩ := hx
              clear w8
              obtain ⟨w8, rfl⟩ : ∃ z, z = wc := ⟨_, rfl⟩
              skip
              obtain ⟨x, y, z, s, t, n1, n2, n3, n4, n5, ⟨⟨d1, d2, isum⟩, ⟨e1, e2, imid⟩, ⟨f1, f2, iboth⟩, ⟨g1, g2, ihalf⟩, ⟨x1, x2, ix⟩, ⟨y1, y2, iy⟩, ⟨z1, z2, iz⟩, ⟨k1, k2, is'⟩, ⟨l1, l2, it⟩, ⟨m1, m2, iway⟩, ⟨o1, o2, irise⟩, ⟨p1, p2, imost⟩, ⟨q1, q2, ileast⟩⟩, hrc, ⟨hs1, hs2, hs3, hs4, hs5⟩, hn1, hn2, hn3, hn4, hn5⟩ := conc_facts HC.out hle iP iQ zP zQ
              have hn1' : ¬ (0 : Int) < n1 := Int.not_lt.2 hn1
              have hn2' : ¬ (0 : Int) < n2 := Int.not_lt.2 hn2
              have hn3' : ¬ (0 : Int) < n3 := Int.not_lt.2 hn3
              have IP := Lib.hid iP
              have IQ := Lib.hid iQ
              have Isum := Lib.hid isum
              have Imid := Lib.hid imid
              have Iboth := Lib.hid iboth
              have Ihalf := Lib.hid ihalf
              have Ix := Lib.hid ix
              have Iy := Lib.hid iy
              have Iz := Lib.hid iz
              have Is := Lib.hid is'
              have It := Lib.hid it
              have Iway := Lib.hid iway
              have Irise := Lib.hid irise
              have Imost := Lib.hid imost
              have Ileast := Lib.hid ileast
              have RC := Lib.hid hrc
              have HS1 := Lib.hid hs1
              have HS2 := Lib.hid hs2
              have HS3 := Lib.hid hs3
              have HS4 := Lib.hid hs4
              have HS5 := Lib.hid hs5
              clear iP iQ isum imid iboth ihalf ix iy iz is' it iway irise imost ileast zP zQ hle hrc hs1 hs2 hs3 hs4 hs5
              skip
              -- HA8: [(B, u2, v2), (A, u1, v1)]
              skip
              have m0 := HA8.out.c0 1 rfl
              have m1 := HA8.out.c1 1 rfl
              go_wp2_with fail
              clear m0 m1
              skip
              refine (chance_to (HV.out.after HB8.out (Nat.le_refl _)) HC.out HLM.out IP.out RC.out.1.1 RC.out.2.1.1 Ix.out (HD.out.below HB8.out (Nat.le_refl _)) (HT.out.below HB8.out (Nat.le_refl _))).mono ?_
              rintro e w9 ⟨rfl, hb⟩
              have HB9 : Hid (Below w.heap.size w (w9.alloc (pObj x1 x2))) := (HB8.out.trans (hb.mono HB8.out.size)).alloc (Nat.le_trans HB8.out.size hb.size) _
              have HA9 := Lib.hid ((HA8.out.after hb (Nat.le_refl _)).push x1 x2)
              clear hb
              have m0 := HA9.out.c0 1 rfl
              have m1 := HA9.out.c1 1 rfl
              go_wp2_with fail
              clear m0 m1
              skip
              refine (chance_to (HV.out.after HB9.out (Nat.le_refl _)) HC.out HLM.out IQ.out RC.out.1.2.1 RC.out.2.1.2.1 Iy.out (HD.out.below HB9.out (Nat.le_refl _)) (HT.out.below HB9.out (Nat.le_refl _))).mono ?_
              rintro e w10 ⟨rfl, hb⟩
              have HB10 : Hid (Below w.heap.size w (w10.alloc (pObj y1 y2))) := (HB9.out.trans (hb.mono HB9.out.size)).alloc (Nat.le_trans HB9.out.size hb.size) _
              have HA10 := Lib.hid ((HA9.out.after hb (Nat.le_refl _)).push y1 y2)
              clear hb
              have m0 := HA10.out.c0 3 rfl
              have m1 := HA10.out.c1 3 rfl
              have m2 := HA10.out.c0 2 rfl
              have m3 := HA10.out.c1 2 rfl
              go_wp2_with fail
              clear m0 m1 m2 m3
              skip
              refine (add_to IP.out IQ.out Isum.out rfl _ (HT.out.below HB10.out (Nat.le_refl _))).mono ?_
              rintro e w11 ⟨rfl, hb⟩
              have HB11 : Hid (Below w.heap.size w (w11.alloc (pObj d1 d2))) := (HB10.out.trans (hb.mono HB10.out.size)).alloc (Nat.le_trans HB10.out.size hb.size) _
              have HA11 := Lib.hid ((HA10.out.after hb (Nat.le_refl _)).push d1 d2)
              clear hb
              skip
              -- a fraction's half: W the world, q in the list's place i
              obtain ⟨W, hWW⟩ : ∃ z0, z0 = w11.alloc (pObj d1 d2) := ⟨_, rfl⟩
              have HSJ : Hid (∀ V, Below W.heap.size W V → SJ (w11.heap.size, d1, d2) V) := fun V hV => by
                subst hWW
                have h := HA11.out.after hV (Nat.le_refl _)
                exact ⟨h.c0 0 rfl, h.c1 0 rfl⟩
              have HTJ : Hid (∀ V, Below W.heap.size W V → Tabs V) := fun V hV => by
                subst hWW
                exact HT.out.below (HB11.out.trans (hV.mono HB11.out.size)) (Nat.le_refl _)
              have HR0 : Hid (Below W.heap.size W W.drew) := (Below.refl _ W).drew
              go_wp2_with fail
              rw [← hWW]
              apply region_join (R := (LaidP W e1 e2))
              case h =>
                refine float_plain 6 [(false, 7), (false, 8)] [(true, 0), (false, 1), (false, 2), (true, 3), (true, 4), (true, 5)] (SJ (w11.heap.size, d1, d2)) (by kernel_rfl) (by kernel_rfl) (fun _ _ _ _ _ h => by cases h.1) (HSJ.out _ HR0.out) ?_
                obtain ⟨V0, hV0⟩ : ∃ z0, W.drew = z0 := ⟨_, rfl⟩
                rw [hV0] at HR0 ⊢
                clear hV0
                skip
                iterate 1
                  refine float_read _ rfl rfl (fun w' hS => by obtain ⟨a0, a1⟩ := hS; go_simp; rfl) ?_
                  simp only [List.getElem_toArray, List.getElem_cons_succ, List.getElem_cons_zero, Act.put, List.setIfInBounds_toArray, List.set_cons_zero, List.set_cons_succ]
                refine float_write rfl rfl rfl rfl (fun K hK => ?_) (fun K hK => ?_)
                · skip
                  go_simp
                  obtain ⟨G, hG⟩ : ∃ G, V0.heap.size = G := ⟨_, rfl⟩
                  obtain ⟨V1, hVV⟩ : ∃ z0, V0.alloc (pObj ⟨#[]⟩ ⟨#[]⟩) = z0 := ⟨_, rfl⟩
                  have hal : Below V0.heap.size V0 V1 := by rw [← hVV]; exact (Below.refl _ _).alloc (Nat.le_refl _) _
                  have HR1 : Hid (Below W.heap.size W V1) := HR0.out.trans (hal.mono HR0.out.size)
                  have HE1 : Hid (V1.heap[G]? = some (pObj ⟨#[]⟩ ⟨#[]⟩)) := by rw [← hVV, ← hG]; exact World.alloc_heap_new _ _
                  have hWG : W.heap.size ≤ G := by rw [← hG]; exact HR0.out.size
                  rw [hG, hVV]
                  refine hK _ _ (HSJ.out _ HR1.out) ?_
                  clear hK K hal hVV hG
                  refine steps_write rfl rfl fun K hK => ?_
                  go_simp
                  go_at_call 30
                  refine (of_12 _ (HTJ.out _ HR1.out)).mono ?_
                  rintro e V2 ⟨rfl, hb⟩
                  have HR2 : Hid (Below W.heap.size W V2) := HR1.out.trans (hb.mono HR1.out.size)
                  have HE2 : Hid (V2.heap[G]? = some (pObj ⟨#[]⟩ ⟨#[]⟩)) := (hb.block G (Array.getElem?_eq_some_iff.1 HE1.out).1).trans HE1.out
                  refine hK _ _ (.inr (HSJ.out _ HR2.out)) ?_
                  clear hK K hb
                  refine steps_write rfl rfl fun K hK => ?_
                  go_simp
                  go_at_call 29
                  refine (mul_to Isum.out half_isP Imid.out rfl _ (HTJ.out _ HR2.out)).mono ?_
                  rintro e V3 ⟨rfl, hb⟩
                  have HR3 : Hid (Below W.heap.size W V3) := HR2.out.trans (hb.mono HR2.out.size)
                  have HE3 : Hid (V3.heap[G]? = some (pObj ⟨#[]⟩ ⟨#[]⟩)) := (hb.block G (Array.getElem?_eq_some_iff.1 HE2.out).1).trans HE2.out
                  refine hK _ _ (.inr (HSJ.out _ HR3.out)) ?_
                  clear hK K hb
                  skip
                  iterate 3
                    refine steps_read _ rfl rfl (fun w' hS => by go_simp; rfl) ?_
                    simp only [List.getElem_toArray, List.getElem_cons_succ, List.getElem_cons_zero, Act.put, List.setIfInBounds_toArray, List.set_cons_zero, List.set_cons_succ]
                  have r0 := known_cell HE3.out 0 rfl
                  have r1 := known_cell HE3.out 1 rfl
                  have f0 := known_frozen HE3.out 0
                  have f1 := known_frozen HE3.out 1
                  refine steps_write rfl rfl fun K hK => ?_
                  go_simp
                  have hq := two_put HE3.out (.string e1) (.string e2)
                  have HQB : Hid (Below W.heap.size W ((V3.setCell ⟨G, 0, none⟩ (.string e1)).setCell ⟨G, 1, none⟩ (.string e2))) := two_put_below HR3.out hWG (.string e1) (.string e2)
                  refine hK _ _ (.inr (HSJ.out _ HQB.out)) ?_
                  clear hK K
                  refine steps_write rfl rfl fun K hK => ?_
                  go_simp
                  refine hK _ _ (.inr (HSJ.out _ HQB.out)) ?_
                  clear hK K
                  refine steps_end ?_
                  exact ⟨rfl, G, rfl, HQB.out, hq, hWG⟩
                · skip
                  go_simp
                  go_at_call 30
                  refine (of_12 _ (HTJ.out _ HR0.out)).mono ?_
                  rintro e V1 ⟨rfl, hb⟩
                  have HR1 : Hid (Below W.heap.size W V1) := HR0.out.trans (hb.mono HR0.out.size)
                  refine hK _ _ (HSJ.out _ HR1.out) ?_
                  clear hK K hb
                  refine float_write rfl rfl rfl rfl (fun K hK => ?_) (fun K hK => ?_)
                  · skip
                    go_simp
                    obtain ⟨G, hG⟩ : ∃ G, V1.heap.size = G := ⟨_, rfl⟩
                    obtain ⟨V2, hVV⟩ : ∃ z0, V1.alloc (pObj ⟨#[]⟩ ⟨#[]⟩) = z0 := ⟨_, rfl⟩
                    have hal : Below V1.heap.size V1 V2 := by rw [← hVV]; exact (Below.refl _ _).alloc (Nat.le_refl _) _
                    have HR2 : Hid (Below W.heap.size W V2) := HR1.out.trans (hal.mono HR1.out.size)
                    have HE2 : Hid (V2.heap[G]? = some (pObj ⟨#[]⟩ ⟨#[]⟩)) := by rw [← hVV, ← hG]; exact World.alloc_heap_new _ _
                    have hWG : W.heap.size ≤ G := by rw [← hG]; exact HR1.out.size
                    rw [hG, hVV]
                    refine hK _ _ (HSJ.out _ HR2.out) ?_
                    clear hK K hal hVV hG
                    refine steps_write rfl rfl fun K hK => ?_
                    go_simp
                    go_at_call 29
                    refine (mul_to Isum.out half_isP Imid.out rfl _ (HTJ.out _ HR2.out)).mono ?_
                    rintro e V3 ⟨rfl, hb⟩
                    have HR3 : Hid (Below W.heap.size W V3) := HR2.out.trans (hb.mono HR2.out.size)
                    have HE3 : Hid (V3.heap[G]? = some (pObj ⟨#[]⟩ ⟨#[]⟩)) := (hb.block G (Array.getElem?_eq_some_iff.1 HE2.out).1).trans HE2.out
                    refine hK _ _ (.inr (HSJ.out _ HR3.out)) ?_
                    clear hK K hb
                    skip
                    iterate 3
                      refine steps_read _ rfl rfl (fun w' hS => by go_simp; rfl) ?_
                      simp only [List.getElem_toArray, List.getElem_cons_succ, List.getElem_cons_zero, Act.put, List.setIfInBounds_toArray, List.set_cons_zero, List.set_cons_succ]
                    have r0 := known_cell HE3.out 0 rfl
                    have r1 := known_cell HE3.out 1 rfl
                    have f0 := known_frozen HE3.out 0
                    have f1 := known_frozen HE3.out 1
                    refine steps_write rfl rfl fun K hK => ?_
                    go_simp
                    have hq := two_put HE3.out (.string e1) (.string e2)
                    have HQB : Hid (Below W.heap.size W ((V3.setCell ⟨G, 0, none⟩ (.string e1)).setCell ⟨G, 1, none⟩ (.string e2))) := two_put_below HR3.out hWG (.string e1) (.string e2)
                    refine hK _ _ (.inr (HSJ.out _ HQB.out)) ?_
                    clear hK K
                    refine steps_write rfl rfl fun K hK => ?_
                    go_simp
                    refine hK _ _ (.inr (HSJ.out _ HQB.out)) ?_
                    clear hK K
                    refine steps_end ?_
                    exact ⟨rfl, G, rfl, HQB.out, hq, hWG⟩
                  · skip
                    go_simp
                    go_at_call 29
                    refine (mul_to Isum.out half_isP Imid.out rfl _ (HTJ.out _ HR1.out)).mono ?_
                    rintro e V2 ⟨rfl, hb⟩
                    have HR2 : Hid (Below W.heap.size W V2) := HR1.out.trans (hb.mono HR1.out.size)
                    refine hK _ _ (HSJ.out _ HR2.out) ?_
                    clear hK K hb
                    skip
                    iterate 3
                      refine float_read _ rfl rfl (fun w' hS => by obtain ⟨a0, a1⟩ := hS; go_simp; rfl) ?_
                      simp only [List.getElem_toArray, List.getElem_cons_succ, List.getElem_cons_zero, Act.put, List.setIfInBounds_toArray, List.set_cons_zero, List.set_cons_succ]
                    refine float_last rfl rfl fun K hK => ?_
                    skip
                    go_simp
                    obtain ⟨G, hG⟩ : ∃ G, V2.heap.size = G := ⟨_, rfl⟩
                    obtain ⟨V3, hVV⟩ : ∃ z0, V2.alloc (pObj ⟨#[]⟩ ⟨#[]⟩) = z0 := ⟨_, rfl⟩
                    have hal : Below V2.heap.size V2 V3 := by rw [← hVV]; exact (Below.refl _ _).alloc (Nat.le_refl _) _
                    have HR3 : Hid (Below W.heap.size W V3) := HR2.out.trans (hal.mono HR2.out.size)
                    have HE3 : Hid (V3.heap[G]? = some (pObj ⟨#[]⟩ ⟨#[]⟩)) := by rw [← hVV, ← hG]; exact World.alloc_heap_new _ _
                    have hWG : W.heap.size ≤ G := by rw [← hG]; exact HR2.out.size
                    rw [hG, hVV]
                    refine hK _ _ (HSJ.out _ HR3.out) ?_
                    clear hK K hal hVV hG
                    have r0 := known_cell HE3.out 0 rfl
                    have r1 := known_cell HE3.out 1 rfl
                    have f0 := known_frozen HE3.out 0
                    have f1 := known_frozen HE3.out 1
                    refine steps_write rfl rfl fun K hK => ?_
                    go_simp
                    have hq := two_put HE3.out (.string e1) (.string e2)
                    have HQB : Hid (Below W.heap.size W ((V3.setCell ⟨G, 0, none⟩ (.string e1)).setCell ⟨G, 1, none⟩ (.string e2))) := two_put_below HR3.out hWG (.string e1) (.string e2)
                    refine hK _ _ (.inr (HSJ.out _ HQB.out)) ?_
                    clear hK K
                    refine steps_write rfl rfl fun K hK => ?_
                    go_simp
                    refine hK _ _ (.inr (HSJ.out _ HQB.out)) ?_
                    clear hK K
                    refine steps_end ?_
                    exact ⟨rfl, G, rfl, HQB.out, hq, hWG⟩
              case k =>
                skip
                rintro G w12 ⟨hb, hg, hWG⟩
                subst hWW
                have HB12 : Hid (Below w.heap.size w w12) := HB11.out.trans (hb.mono HB11.out.size)
                have HA12 := Lib.hid ((HA11.out.after hb (Nat.le_refl _)).also hg)
                clear hb hg hWG HSJ HTJ HR0
                try dsimp only
                skip
                have m0 := HA12.out.c0 0 rfl
                have m1 := HA12.out.c1 0 rfl
                go_wp2_with fail
                clear m0 m1
                skip
                refine (chance_to (HV.out.after HB12.out (Nat.le_refl _)) HC.out HLM.out Imid.out RC.out.1.2.2 RC.out.2.1.2.2 Iz.out (HD.out.below HB12.out (Nat.le_refl _)) (HT.out.below HB12.out (Nat.le_refl _))).mono ?_
                rintro e w13 ⟨rfl, hb⟩
                have HB13 : Hid (Below w.heap.size w (w13.alloc (pObj z1 z2))) := (HB12.out.trans (hb.mono HB12.out.size)).alloc (Nat.le_trans HB12.out.size hb.size) _
                have HA13 := Lib.hid ((HA12.out.after hb (Nat.le_refl _)).push z1 z2)
                clear hb
                have m0 := HA13.out.c0 4 rfl
                have m1 := HA13.out.c1 4 rfl
                have m2 := HA13.out.c0 3 rfl
                have m3 := HA13.out.c1 3 rfl
                go_wp2_with fail
                clear m0 m1 m2 m3
                skip
                refine (add_to Ix.out Iy.out Iboth.out rfl _ (HT.out.below HB13.out (Nat.le_refl _))).mono ?_
                rintro e w14 ⟨rfl, hb⟩
                have HB14 : Hid (Below w.heap.size w (w14.alloc (pObj f1 f2))) := (HB13.out.trans (hb.mono HB13.out.size)).alloc (Nat.le_trans HB13.out.size hb.size) _
                have HA14 := Lib.hid ((HA13.out.after hb (Nat.le_refl _)).push f1 f2)
                clear hb
                skip
                -- a fraction's half: W the world, q in the list's place i
                obtain ⟨W, hWW⟩ : ∃ z0, z0 = w14.alloc (pObj f1 f2) := ⟨_, rfl⟩
                have HSJ : Hid (∀ V, Below W.heap.size W V → SJ (w14.heap.size, f1, f2) V) := fun V hV => by
                  subst hWW
                  have h := HA14.out.after hV (Nat.le_refl _)
                  exact ⟨h.c0 0 rfl, h.c1 0 rfl⟩
                have HTJ : Hid (∀ V, Below W.heap.size W V → Tabs V) := fun V hV => by
                  subst hWW
                  exact HT.out.below (HB14.out.trans (hV.mono HB14.out.size)) (Nat.le_refl _)
                have HR0 : Hid (Below W.heap.size W W.drew) := (Below.refl _ W).drew
                go_wp2_with fail
                rw [← hWW]
                apply region_join (R := (LaidP W g1 g2))
                case h =>
                  refine float_plain 6 [(false, 7), (false, 8)] [(true, 0), (false, 1), (false, 2), (true, 3), (true, 4), (true, 5)] (SJ (w14.heap.size, f1, f2)) (by kernel_rfl) (by kernel_rfl) (fun _ _ _ _ _ h => by cases h.1) (HSJ.out _ HR0.out) ?_
                  obtain ⟨V0, hV0⟩ : ∃ z0, W.drew = z0 := ⟨_, rfl⟩
                  rw [hV0] at HR0 ⊢
                  clear hV0
                  skip
                  iterate 1
                    refine float_read _ rfl rfl (fun w' hS => by obtain ⟨a0, a1⟩ := hS; go_simp; rfl) ?_
                    simp only [List.getElem_toArray, List.getElem_cons_succ, List.getElem_cons_zero, Act.put, List.setIfInBounds_toArray, List.set_cons_zero, List.set_cons_succ]
                  refine float_write rfl rfl rfl rfl (fun K hK => ?_) (fun K hK => ?_)
                  · skip
                    go_simp
                    obtain ⟨G, hG⟩ : ∃ G, V0.heap.size = G := ⟨_, rfl⟩
                    obtain ⟨V1, hVV⟩ : ∃ z0, V0.alloc (pObj ⟨#[]⟩ ⟨#[]⟩) = z0 := ⟨_, rfl⟩
                    have hal : Below V0.heap.size V0 V1 := by rw [← hVV]; exact (Below.refl _ _).alloc (Nat.le_refl _) _
                    have HR1 : Hid (Below W.heap.size W V1) := HR0.out.trans (hal.mono HR0.out.size)
                    have HE1 : Hid (V1.heap[G]? = some (pObj ⟨#[]⟩ ⟨#[]⟩)) := by rw [← hVV, ← hG]; exact World.alloc_heap_new _ _
                    have hWG : W.heap.size ≤ G := by rw [← hG]; exact HR0.out.size
                    rw [hG, hVV]
                    refine hK _ _ (HSJ.out _ HR1.out) ?_
                    clear hK K hal hVV hG
                    refine steps_write rfl rfl fun K hK => ?_
                    go_simp
                    go_at_call 30
                    refine (of_12 _ (HTJ.out _ HR1.out)).mono ?_
                    rintro e V2 ⟨rfl, hb⟩
                    have HR2 : Hid (Below W.heap.size W V2) := HR1.out.trans (hb.mono HR1.out.size)
                    have HE2 : Hid (V2.heap[G]? = some (pObj ⟨#[]⟩ ⟨#[]⟩)) := (hb.block G (Array.getElem?_eq_some_iff.1 HE1.out).1).trans HE1.out
                    refine hK _ _ (.inr (HSJ.out _ HR2.out)) ?_
                    clear hK K hb
                    refine steps_write rfl rfl fun K hK => ?_
                    go_simp
                    go_at_call 29
                    refine (mul_to Iboth.out half_isP Ihalf.out rfl _ (HTJ.out _ HR2.out)).mono ?_
                    rintro e V3 ⟨rfl, hb⟩
                    have HR3 : Hid (Below W.heap.size W V3) := HR2.out.trans (hb.mono HR2.out.size)
                    have HE3 : Hid (V3.heap[G]? = some (pObj ⟨#[]⟩ ⟨#[]⟩)) := (hb.block G (Array.getElem?_eq_some_iff.1 HE2.out).1).trans HE2.out
                    refine hK _ _ (.inr (HSJ.out _ HR3.out)) ?_
                    clear hK K hb
                    skip
                    iterate 3
                      refine steps_read _ rfl rfl (fun w' hS => by go_simp; rfl) ?_
                      simp only [List.getElem_toArray, List.getElem_cons_succ, List.getElem_cons_zero, Act.put, List.setIfInBounds_toArray, List.set_cons_zero, List.set_cons_succ]
                    have r0 := known_cell HE3.out 0 rfl
                    have r1 := known_cell HE3.out 1 rfl
                    have f0 := known_frozen HE3.out 0
                    have f1 := known_frozen HE3.out 1
                    refine steps_write rfl rfl fun K hK => ?_
                    go_simp
                    have hq := two_put HE3.out (.string g1) (.string g2)
                    have HQB : Hid (Below W.heap.size W ((V3.setCell ⟨G, 0, none⟩ (.string g1)).setCell ⟨G, 1, none⟩ (.string g2))) := two_put_below HR3.out hWG (.string g1) (.string g2)
                    refine hK _ _ (.inr (HSJ.out _ HQB.out)) ?_
                    clear hK K
                    refine steps_write rfl rfl fun K hK => ?_
                    go_simp
                    refine hK _ _ (.inr (HSJ.out _ HQB.out)) ?_
                    clear hK K
                    refine steps_end ?_
                    exact ⟨rfl, G, rfl, HQB.out, hq, hWG⟩
                  · skip
                    go_simp
                    go_at_call 30
                    refine (of_12 _ (HTJ.out _ HR0.out)).mono ?_
                    rintro e V1 ⟨rfl, hb⟩
                    have HR1 : Hid (Below W.heap.size W V1) := HR0.out.trans (hb.mono HR0.out.size)
                    refine hK _ _ (HSJ.out _ HR1.out) ?_
                    clear hK K hb
                    refine float_write rfl rfl rfl rfl (fun K hK => ?_) (fun K hK => ?_)
                    · skip
                      go_simp
                      obtain ⟨G, hG⟩ : ∃ G, V1.heap.size = G := ⟨_, rfl⟩
                      obtain ⟨V2, hVV⟩ : ∃ z0, V1.alloc (pObj ⟨#[]⟩ ⟨#[]⟩) = z0 := ⟨_, rfl⟩
                      have hal : Below V1.heap.size V1 V2 := by rw [← hVV]; exact (Below.refl _ _).alloc (Nat.le_refl _) _
                      have HR2 : Hid (Below W.heap.size W V2) := HR1.out.trans (hal.mono HR1.out.size)
                      have HE2 : Hid (V2.heap[G]? = some (pObj ⟨#[]⟩ ⟨#[]⟩)) := by rw [← hVV, ← hG]; exact World.alloc_heap_new _ _
                      have hWG : W.heap.size ≤ G := by rw [← hG]; exact HR1.out.size
                      rw [hG, hVV]
                      refine hK _ _ (HSJ.out _ HR2.out) ?_
                      clear hK K hal hVV hG
                      refine steps_write rfl rfl fun K hK => ?_
                      go_simp
                      go_at_call 29
                      refine (mul_to Iboth.out half_isP Ihalf.out rfl _ (HTJ.out _ HR2.out)).mono ?_
                      rintro e V3 ⟨rfl, hb⟩
                      have HR3 : Hid (Below W.heap.size W V3) := HR2.out.trans (hb.mono HR2.out.size)
                      have HE3 : Hid (V3.heap[G]? = some (pObj ⟨#[]⟩ ⟨#[]⟩)) := (hb.block G (Array.getElem?_eq_some_iff.1 HE2.out).1).trans HE2.out
                      refine hK _ _ (.inr (HSJ.out _ HR3.out)) ?_
                      clear hK K hb
                      skip
                      iterate 3
                        refine steps_read _ rfl rfl (fun w' hS => by go_simp; rfl) ?_
                        simp only [List.getElem_toArray, List.getElem_cons_succ, List.getElem_cons_zero, Act.put, List.setIfInBounds_toArray, List.set_cons_zero, List.set_cons_succ]
                      have r0 := known_cell HE3.out 0 rfl
                      have r1 := known_cell HE3.out 1 rfl
                      have f0 := known_frozen HE3.out 0
                      have f1 := known_frozen HE3.out 1
                      refine steps_write rfl rfl fun K hK => ?_
                      go_simp
                      have hq := two_put HE3.out (.string g1) (.string g2)
                      have HQB : Hid (Below W.heap.size W ((V3.setCell ⟨G, 0, none⟩ (.string g1)).setCell ⟨G, 1, none⟩ (.string g2))) := two_put_below HR3.out hWG (.string g1) (.string g2)
                      refine hK _ _ (.inr (HSJ.out _ HQB.out)) ?_
                      clear hK K
                      refine steps_write rfl rfl fun K hK => ?_
                      go_simp
                      refine hK _ _ (.inr (HSJ.out _ HQB.out)) ?_
                      clear hK K
                      refine steps_end ?_
                      exact ⟨rfl, G, rfl, HQB.out, hq, hWG⟩
                    · skip
                      go_simp
                      go_at_call 29
                      refine (mul_to Iboth.out half_isP Ihalf.out rfl _ (HTJ.out _ HR1.out)).mono ?_
                      rintro e V2 ⟨rfl, hb⟩
                      have HR2 : Hid (Below W.heap.size W V2) := HR1.out.trans (hb.mono HR1.out.size)
                      refine hK _ _ (HSJ.out _ HR2.out) ?_
                      clear hK K hb
                      skip
                      iterate 3
                        refine float_read _ rfl rfl (fun w' hS => by obtain ⟨a0, a1⟩ := hS; go_simp; rfl) ?_
                        simp only [List.getElem_toArray, List.getElem_cons_succ, List.getElem_cons_zero, Act.put, List.setIfInBounds_toArray, List.set_cons_zero, List.set_cons_succ]
                      refine float_last rfl rfl fun K hK => ?_
                      skip
                      go_simp
                      obtain ⟨G, hG⟩ : ∃ G, V2.heap.size = G := ⟨_, rfl⟩
                      obtain ⟨V3, hVV⟩ : ∃ z0, V2.alloc (pObj ⟨#[]⟩ ⟨#[]⟩) = z0 := ⟨_, rfl⟩
                      have hal : Below V2.heap.size V2 V3 := by rw [← hVV]; exact (Below.refl _ _).alloc (Nat.le_refl _) _
                      have HR3 : Hid (Below W.heap.size W V3) := HR2.out.trans (hal.mono HR2.out.size)
                      have HE3 : Hid (V3.heap[G]? = some (pObj ⟨#[]⟩ ⟨#[]⟩)) := by rw [← hVV, ← hG]; exact World.alloc_heap_new _ _
                      have hWG : W.heap.size ≤ G := by rw [← hG]; exact HR2.out.size
                      rw [hG, hVV]
                      refine hK _ _ (HSJ.out _ HR3.out) ?_
                      clear hK K hal hVV hG
                      have r0 := known_cell HE3.out 0 rfl
                      have r1 := known_cell HE3.out 1 rfl
                      have f0 := known_frozen HE3.out 0
                      have f1 := known_frozen HE3.out 1
                      refine steps_write rfl rfl fun K hK => ?_
                      go_simp
                      have hq := two_put HE3.out (.string g1) (.string g2)
                      have HQB : Hid (Below W.heap.size W ((V3.setCell ⟨G, 0, none⟩ (.string g1)).setCell ⟨G, 1, none⟩ (.string g2))) := two_put_below HR3.out hWG (.string g1) (.string g2)
                      refine hK _ _ (.inr (HSJ.out _ HQB.out)) ?_
                      clear hK K
                      refine steps_write rfl rfl fun K hK => ?_
                      go_simp
                      refine hK _ _ (.inr (HSJ.out _ HQB.out)) ?_
                      clear hK K
                      refine steps_end ?_
                      exact ⟨rfl, G, rfl, HQB.out, hq, hWG⟩
                case k =>
                  rintro GH w15 ⟨hb, hg, hWG⟩
                  subst hWW
                  have HB15 : Hid (Below w.heap.size w w15) := HB14.out.trans (hb.mono HB14.out.size)
                  have HA15 := Lib.hid ((HA14.out.after hb (Nat.le_refl _)).also hg)
                  clear hb hg hWG HSJ HTJ HR0
                  try dsimp only
                  obtain ⟨W, hWW⟩ : ∃ z0, z0 = w15 := ⟨_, rfl⟩
                  have HSC : Hid (∀ V, Below W.heap.size W V → SC (w9.heap.size, x1, x2) (w10.heap.size, y1, y2) (GH, g1, g2) (w13.heap.size, z1, z2) V) := fun V hV => by
                    subst hWW
                    have h := HA15.out.after hV (Nat.le_refl _)
                    exact ⟨⟨h.c0 6 rfl, h.c1 6 rfl⟩, ⟨h.c0 5 rfl, h.c1 5 rfl⟩, ⟨h.c0 0 rfl, h.c1 0 rfl⟩, h.c0 2 rfl, h.c1 2 rfl⟩
                  have HTJ : Hid (∀ V, Below W.heap.size W V → Tabs V) := fun V hV => by
                    subst hWW
                    exact HT.out.below (HB15.out.trans (hV.mono HB15.out.size)) (Nat.le_refl _)
                  have HR0 : Hid (Below W.heap.size W W.drew) := (Below.refl _ W).drew
                  go_wp2_with fail
                  rw [← hWW]
                  have HWW := Lib.hid hWW
                  clear hWW
                  refine tsteps_plain ((List.range 29).map (fun i => (true, i)) ++ [(false, 29), (true, 30), (true, 31), (true, 32), (true, 33), (false, 34), (false, 35), (true, 36), (true, 37), (true, 38), (true, 39), (true, 40), (false, 41), (true, 42), (true, 43)]) (SC (w9.heap.size, x1, x2) (w10.heap.size, y1, y2) (GH, g1, g2) (w13.heap.size, z1, z2)) (fun _ => false)
                    (by kernel_rfl) (by kernel_rfl) (by kernel_rfl) (fun _ _ => rfl) (fun _ _ o _ _ h => by cases o <;> exact h) (HSC.out _ HR0.out) ?_
                  simp only [List.range, List.range.loop, List.map_cons, List.map_nil, List.cons_append, List.nil_append]
                  skip
                  iterate 29
                    refine steps_read _ rfl rfl (fun w' hS => by obtain ⟨⟨a0, a1⟩, ⟨b0, b1⟩, ⟨c0, c1⟩, d0, d1⟩ := hS; go_simp; rfl) ?_
                    simp only [List.getElem_toArray, List.getElem_cons_succ, List.getElem_cons_zero, Act.put, List.setIfInBounds_toArray, List.set_cons_zero, List.set_cons_succ]
                  refine steps_write rfl rfl fun K hK => ?_
                  go_simp
                  go_at_call 31
                  refine (cmp_to Ix.out Iy.out HS1.out _).mono ?_
                  rintro e V1 ⟨rfl, hb⟩
                  have HR1 : Hid (Below W.heap.size W V1) := HR0.out.trans (hb.mono HR0.out.size)
                  refine hK _ _ (.inr (HSC.out _ HR1.out)) ?_
                  clear hK K hb
                  skip
                  iterate 1
                    refine steps_read _ rfl rfl (fun w' hS => by obtain ⟨⟨a0, a1⟩, ⟨b0, b1⟩, ⟨c0, c1⟩, d0, d1⟩ := hS; go_simp; rfl) ?_
                    simp only [List.getElem_toArray, List.getElem_cons_succ, List.getElem_cons_zero, Act.put, List.setIfInBounds_toArray, List.set_cons_zero, List.set_cons_succ]
                  rw [decide_eq_false (Int.not_lt.2 hn1 : ¬ (0 : Int) < n1)]
                  iterate 3
                    refine steps_read _ rfl rfl (fun w' hS => by obtain ⟨⟨a0, a1⟩, ⟨b0, b1⟩, ⟨c0, c1⟩, d0, d1⟩ := hS; go_simp; rfl) ?_
                    simp only [List.getElem_toArray, List.getElem_cons_succ, List.getElem_cons_zero, Act.put, List.setIfInBounds_toArray, List.set_cons_zero, List.set_cons_succ]
                  refine steps_write rfl rfl fun K hK => ?_
                  go_simp
                  go_at_call 30
                  refine (of_11 _ (HTJ.out _ HR1.out)).mono ?_
                  rintro e V2 ⟨rfl, hb⟩
                  have HR2 : Hid (Below W.heap.size W V2) := HR1.out.trans (hb.mono HR1.out.size)
                  refine hK _ _ (.inr (HSC.out _ HR2.out)) ?_
                  clear hK K hb
                  refine steps_write rfl rfl fun K hK => ?_
                  go_simp
                  go_at_call 31
                  refine (cmp_to Iy.out isP_one HS2.out _).mono ?_
                  rintro e V3 ⟨rfl, hb⟩
                  have HR3 : Hid (Below W.heap.size W V3) := HR2.out.trans (hb.mono HR2.out.size)
                  refine hK _ _ (.inr (HSC.out _ HR3.out)) ?_
                  clear hK K hb
                  skip
                  iterate 1
                    refine steps_read _ rfl rfl (fun w' hS => by obtain ⟨⟨a0, a1⟩, ⟨b0, b1⟩, ⟨c0, c1⟩, d0, d1⟩ := hS; go_simp; rfl) ?_
                    simp only [List.getElem_toArray, List.getElem_cons_succ, List.getElem_cons_zero, Act.put, List.setIfInBounds_toArray, List.set_cons_zero, List.set_cons_succ]
                  rw [decide_eq_false (Int.not_lt.2 hn2 : ¬ (0 : Int) < n2)]
                  iterate 4
                    refine steps_read _ rfl rfl (fun w' hS => by obtain ⟨⟨a0, a1⟩, ⟨b0, b1⟩, ⟨c0, c1⟩, d0, d1⟩ := hS; go_simp; rfl) ?_
                    simp only [List.getElem_toArray, List.getElem_cons_succ, List.getElem_cons_zero, Act.put, List.setIfInBounds_toArray, List.set_cons_zero, List.set_cons_succ]
                  refine steps_write rfl rfl fun K hK => ?_
                  go_simp
                  go_at_call 31
                  refine (cmp_to Ihalf.out Iz.out HS3.out _).mono ?_
                  rintro e V4 ⟨rfl, hb⟩
                  have HR4 : Hid (Below W.heap.size W V4) := HR3.out.trans (hb.mono HR3.out.size)
                  refine hK _ _ (.inr (HSC.out _ HR4.out)) ?_
                  clear hK K hb
                  skip
                  iterate 1
                    refine steps_read _ rfl rfl (fun w' hS => by obtain ⟨⟨a0, a1⟩, ⟨b0, b1⟩, ⟨c0, c1⟩, d0, d1⟩ := hS; go_simp; rfl) ?_
                    simp only [List.getElem_toArray, List.getElem_cons_succ, List.getElem_cons_zero, Act.put, List.setIfInBounds_toArray, List.set_cons_zero, List.set_cons_succ]
                  rw [decide_eq_false (Int.not_lt.2 hn3 : ¬ (0 : Int) < n3)]
                  iterate 1
                    refine steps_read _ rfl rfl (fun w' hS => by obtain ⟨⟨a0, a1⟩, ⟨b0, b1⟩, ⟨c0, c1⟩, d0, d1⟩ := hS; go_simp; rfl) ?_
                    simp only [List.getElem_toArray, List.getElem_cons_succ, List.getElem_cons_zero, Act.put, List.setIfInBounds_toArray, List.set_cons_zero, List.set_cons_succ]
                  refine steps_end ?_
                  obtain hWW := HWW.out
                  clear HWW
                  subst hWW
                  have HB16 := Lib.hid (HB15.out.trans (HR4.out.mono HB15.out.size))
                  have HA16 := Lib.hid (HA15.out.after HR4.out (Nat.le_refl _))
                  clear HSC HTJ HR0 HR1 HR2 HR3
                  obtain ⟨w16, hw16⟩ : ∃ z0, V4 = z0 := ⟨_, rfl⟩
                  rw [hw16] at HB16 HA16 ⊢
                  clear HR4 hw16
                  skip
                  have m0 := HA16.out.c0 8 rfl
                  have m1 := HA16.out.c1 8 rfl
                  go_wp2_with fail
                  clear m0 m1
                  skip
                  refine (slope_to (HV.out.after HB16.out (Nat.le_refl _)) HC.out HLM.out IP.out RC.out.1.1 RC.out.2.2.1 Is.out (HD.out.below HB16.out (Nat.le_refl _)) (HT.out.below HB16.out (Nat.le_refl _))).mono ?_
                  rintro e w17 ⟨rfl, hb⟩
                  have HB17 : Hid (Below w.heap.size w (w17.alloc (pObj k1 k2))) := (HB16.out.trans (hb.mono HB16.out.size)).alloc (Nat.le_trans HB16.out.size hb.size) _
                  have HA17 := Lib.hid ((HA16.out.after hb (Nat.le_refl _)).push k1 k2)
                  clear hb
                  have m0 := HA17.out.c0 8 rfl
                  have m1 := HA17.out.c1 8 rfl
                  go_wp2_with fail
                  clear m0 m1
                  skip
                  refine (slope_to (HV.out.after HB17.out (Nat.le_refl _)) HC.out HLM.out IQ.out RC.out.1.2.1 RC.out.2.2.2 It.out (HD.out.below HB17.out (Nat.le_refl _)) (HT.out.below HB17.out (Nat.le_refl _))).mono ?_
                  rintro e w18 ⟨rfl, hb⟩
                  have HB18 : Hid (Below w.heap.size w (w18.alloc (pObj l1 l2))) := (HB17.out.trans (hb.mono HB17.out.size)).alloc (Nat.le_trans HB17.out.size hb.size) _
                  have HA18 := Lib.hid ((HA17.out.after hb (Nat.le_refl _)).push l1 l2)
                  clear hb
                  have m0 := HA18.out.c0 9 rfl
                  have m1 := HA18.out.c1 9 rfl
                  have m2 := HA18.out.c0 10 rfl
                  have m3 := HA18.out.c1 10 rfl
                  go_wp2_with fail
                  clear m0 m1 m2 m3
                  skip
                  refine (sub_to IQ.out IP.out Iway.out rfl _ (HT.out.below HB18.out (Nat.le_refl _))).mono ?_
                  rintro e w19 ⟨rfl, hb⟩
                  have HB19 : Hid (Below w.heap.size w (w19.alloc (pObj m1 m2))) := (HB18.out.trans (hb.mono HB18.out.size)).alloc (Nat.le_trans HB18.out.size hb.size) _
                  have HA19 := Lib.hid ((HA18.out.after hb (Nat.le_refl _)).push m1 m2)
                  clear hb
                  have m0 := HA19.out.c0 8 rfl
                  have m1 := HA19.out.c1 8 rfl
                  have m2 := HA19.out.c0 9 rfl
                  have m3 := HA19.out.c1 9 rfl
                  go_wp2_with fail
                  clear m0 m1 m2 m3
                  skip
                  refine (sub_to Iy.out Ix.out Irise.out rfl _ (HT.out.below HB19.out (Nat.le_refl _))).mono ?_
                  rintro e w20 ⟨rfl, hb⟩
                  have HB20 : Hid (Below w.heap.size w (w20.alloc (pObj o1 o2))) := (HB19.out.trans (hb.mono HB19.out.size)).alloc (Nat.le_trans HB19.out.size hb.size) _
                  have HA20 := Lib.hid ((HA19.out.after hb (Nat.le_refl _)).push o1 o2)
                  clear hb
                  have m0 := HA20.out.c0 3 rfl
                  have m1 := HA20.out.c1 3 rfl
                  have m2 := HA20.out.c0 1 rfl
                  have m3 := HA20.out.c1 1 rfl
                  go_wp2_with fail
                  clear m0 m1 m2 m3
                  skip
                  refine (mul_to Is.out Iway.out Imost.out rfl _ (HT.out.below HB20.out (Nat.le_refl _))).mono ?_
                  rintro e w21 ⟨rfl, hb⟩
                  have HB21 : Hid (Below w.heap.size w (w21.alloc (pObj p1 p2))) := (HB20.out.trans (hb.mono HB20.out.size)).alloc (Nat.le_trans HB20.out.size hb.size) _
                  have HA21 := Lib.hid ((HA20.out.after hb (Nat.le_refl _)).push p1 p2)
                  clear hb
                  have m0 := HA21.out.c0 3 rfl
                  have m1 := HA21.out.c1 3 rfl
                  have m2 := HA21.out.c0 2 rfl
                  have m3 := HA21.out.c1 2 rfl
                  go_wp2_with fail
                  clear m0 m1 m2 m3
                  skip
                  refine (mul_to It.out Iway.out Ileast.out rfl _ (HT.out.below HB21.out (Nat.le_refl _))).mono ?_
                  rintro e w22 ⟨rfl, hb⟩
                  have HB22 : Hid (Below w.heap.size w (w22.alloc (pObj q1 q2))) := (HB21.out.trans (hb.mono HB21.out.size)).alloc (Nat.le_trans HB21.out.size hb.size) _
                  have HA22 := Lib.hid ((HA21.out.after hb (Nat.le_refl _)).push q1 q2)
                  clear hb
                  have m0 := HA22.out.c0 2 rfl
                  have m1 := HA22.out.c1 2 rfl
                  have m2 := HA22.out.c0 1 rfl
                  have m3 := HA22.out.c1 1 rfl
                  go_wp2_with fail
                  clear m0 m1 m2 m3
                  skip
                  refine (cmp_to Irise.out Imost.out HS4.out _).mono ?_
                  rintro e w23 ⟨rfl, hb⟩
                  have HB23 := Lib.hid (HB22.out.trans (hb.mono HB22.out.size))
                  have HA23 := Lib.hid (HA22.out.after hb (Nat.le_refl _))
                  clear hb
                  have m0 := HA23.out.c0 0 rfl
                  have m1 := HA23.out.c1 0 rfl
                  have m2 := HA23.out.c0 2 rfl
                  have m3 := HA23.out.c1 2 rfl
                  go_wp2_with fail
                  clear m0 m1 m2 m3
                  skip
                  refine (cmp_to Ileast.out Irise.out HS5.out _).mono ?_
                  rintro e w24 ⟨rfl, hb⟩
                  have HB24 := Lib.hid (HB23.out.trans (hb.mono HB23.out.size))
                  have HA24 := Lib.hid (HA23.out.after hb (Nat.le_refl _))
                  clear hb
                  skip
                  go_wp2
                  go_ret
                  exact ⟨rfl, HB24.out⟩
      · clear hC
        skip
        go_wp2
        go_ret
        exact ⟨rfl, HB5.out⟩
  · clear hG
    skip
    go_wp2
    go_ret
    exact ⟨rfl, HB2.out⟩
end Go.Proofs.YtcncdepjbhnknaaGreatDoor
namespace Go.Proofs.YtcncdepjbhnknaaGreatDoor
open Go.ChangeShapes Go.WideShapes Go.ChangeAt Go.RowKit

set_option maxRecDepth 100000 in
theorem concave_lifted (os : Os) (started : os.Started) (H : Type) (enc : TypeId × Value → H) :
    ReturnsInHanded {} Tryz.checked os 10 .any (fun w args => (Rows.detectConcaveSpec.pre enc Tryz.prog Tryz.f10 Rows.detectConcaveRow.domain false w args ∧ laidMetH Tryz.prog laid9 w) ∧ sizedMet enc Tryz.prog Tryz.f10 (OpenSpec.ofChange Rows.detectConcaveSpec) false w args)
      (Rows.detectConcaveSpec.post enc Tryz.prog Tryz.f10 false true false false) := by
  refine returnsInHanded_of_change_and (C := Tryz.checked) (X := fun w _ => laidMetH Tryz.prog laid9 w) (fun _ _ _ hh h => h.of_heap hh) own_seat started (by kernel_rfl) Tryz.func10
    (ChangeSpec.witness_shaped (enc := enc) (C := Tryz.checked) (os := os) (X := fun w _ => laidMetH Tryz.prog laid9 w) false (World.laidAll Tryz.prog os laid9) #[.slice none 0 0, .agg #[.string ⟨#[]⟩, .string ⟨#[]⟩], .agg #[.string ⟨#[]⟩, .string ⟨#[]⟩]] 8 (World.laidAll_os _ _ _)
      (World.shaped_of_ZipB (by kernel_rfl) (by kernel_rfl)) (by kernel_rfl) (by kernel_rfl) (by kernel_rfl) (met9 os _)) ?_
  intro W base args ds gs before hval0 hW hc _ hL _
  have hval : ∀ (j : Nat) t v, Tryz.f10.params[j]? = some t → args[j]? = some v → Value.okWide Tryz.prog W .any base t v := hval0
  have hW' := hW
  obtain ⟨p, q, hA0, hV, rfl, _, _⟩ := hW
  have hA : DataW.TrodAll enc Tryz.prog W 0 (fun _ => true) true Tryz.f10.params.toList args.toList ds p := hA0
  rw [Tryz.params10] at hA hval
  obtain ⟨v0, v1, v2, d0, d1, d2, p0, p1, p2, rfl, rfl, rfl, h0, h1, h2⟩ := trodAll_three hA
  obtain ⟨rfl, rfl⟩ := trodVars_none hV
  obtain ⟨bs0, hb0⟩ := open_bends (hval 0 _ v0 rfl rfl) h0
  obtain ⟨s1, t1, rfl, rfl⟩ := open_part (hval 1 _ v1 rfl rfl) h1
  obtain ⟨s2, t2, rfl, rfl⟩ := open_part (hval 2 _ v2 rfl rfl) h2
  clear hA0 hval0
  simp only [List.append_nil] at hW'
  refine (concave_law hb0 s1 t1 s2 t2 (detV_of_laid9 hL) (tabs_of_laid9 hL)).mono fun e W' ⟨he, bel⟩ => ?_
  subst he
  have nx : ∀ x ∈ ([] : List MemPlace), x.block < W.heap.size := fun _ h => by cases h
  have hlt0 : ∀ x ∈ p0, x.block < W.heap.size := fun x hx => by first | (have := hW'.lt x hx; simpa using this) | (have := hW'.lt x (by simp [hx]); simpa using this)
  refine ⟨_, rfl, _, _, _, [], p0, [], hW', ?_, ?_, ?_, bel.frame _, fun h => by cases h⟩
  · exact trodAll_mk1 (shut_bool Tryz.underlying4 _)
  · have h9 := trodAll_mk3 (Below.trod out_seat (by kernel_rfl) (of_decide_eq_true (by kernel_rfl)) h0 bel hlt0) (Below.trod out_seat (by kernel_rfl) (of_decide_eq_true (by kernel_rfl)) h1 bel nx) (Below.trod out_seat (by kernel_rfl) (of_decide_eq_true (by kernel_rfl)) h2 bel nx)
    first | exact h9 | (simp only [List.append_nil, List.nil_append] at h9; exact h9) | (simpa using h9)
  · rfl
end Go.Proofs.YtcncdepjbhnknaaGreatDoor
